/- Texts joined; a set's mark and what is too much, printed (joined by assemble.py). -/
import Derived.Test.YtpdhbpdfldfnhaaGreatDoorZc
import Derived.Test.YtpdhbpdfldfnhaaGreatDoorZd
import Derived.Sort.EveryDepth
import Derived.Sort.OwnSorted
import Derived.Sort.Grow
import Derived.Lib.OwnBridge
import Derived.Shelf.Slices.In.SortNone
import Derived.Test.YtpdhbpdfldfnhaaGreatDoorProg
import Derived.Below
import Derived.Deep.Draws
import Derived.Deep.AppendLies
import Derived.Maps.AppendAt
import Derived.OwnWalk
import Derived.Laws.BytesArg
import Derived.Laws.MakeOwn
import Derived.Laws.OwnMore
import Derived.Deep.OwnRows
import Derived.Tactics
import Derived.Lib.ConvBytes
import Derived.Laws.Slices
import Derived.WalkKit
import Derived.KernelRfl
import Derived.RowKit3
import Derived.Deep.LoopGhost
import Derived.Deep.QuietTactic
import Derived.BigQuiet
import Derived.WideLaws
import Derived.Deep.DeepCutAuto
import Derived.Deep.CutBlock
import Derived.Deep.RegionHeld3
import Derived.Laws.Rows
import Derived.Lib.AppendStr
import Derived.ArgAppend
import Derived.Laws.IdiomCopy
import Derived.OrdersHeld
import Derived.Laws.BitsLemmas
import Derived.RowKit
import Derived.Test.YtpdhbpdfldfnhaaGreatDoorZf
import Derived.Test.YtpdhbpdfldfnhaaGreatDoorZa
set_option linter.unusedVariables false
set_option linter.unusedSimpArgs false
/- of RgJoin -/
/- Texts of the call's own are sorted, then joined. -/
namespace Go.Proofs.YtpdhbpdfldfnhaaGreatDoor.Rk
open Go Go.RowKit Go.Sort Go.Proofs.YtpdhbpdfldfnhaaGreatDoorW.PrintWords Go.Proofs.YtpdhbpdfldfnhaaGreatDoorW.PrintLast Go.Proofs.YtpdhbpdfldfnhaaGreatDoorW.PrintMore Go.Proofs.YtpdhbpdfldfnhaaGreatDoor.Rn
/-- the texts, in order, behind one another -/
def jn (l : List ByteArray) : ByteArray := ⟨(Lib.join ((srtB l).map (·.data.toList)) []).toArray⟩
def OkJ (l : List ByteArray) : Prop := l.length < 1099511627776 ∧ (Lib.join ((srtB l).map (·.data.toList)) []).length ≤ 140737488355328
instance (l : List ByteArray) : Decidable (OkJ l) := by unfold OkJ; infer_instance
theorem jn_nil : jn [] = ⟨#[]⟩ := by
  have : srtB [] = [] := List.eq_nil_of_length_eq_zero (srtB_length [])
  unfold jn
  rw [this]
  rfl
theorem sorted_map (l : List ByteArray) : (srtB l).map tl = srt (l.map tl) := by
  unfold srtB
  rw [List.map_map, List.map_congr_left (fun x _ => show (tl ∘ bs) x = id x from tl_bs x), List.map_id]
theorem holds_own {w : World} {base : Nat} {ok : Nat → Prop} {g n c : Nat} {l : List ByteArray} (h : Kd.R Kd.string 9 w base ok (.slice (some ⟨g, 0, none⟩) n c) l) : g < w.heap.size ∧ Holds encStr w g 0 (l.map tl).toArray := by
  obtain ⟨inner, ho⟩ := Kd.R_own h
  obtain ⟨cells, hcells⟩ := own_typed ho g rfl
  obtain ⟨A, c', e, hl, hC⟩ := Kd.R_reads h
  cases e
  refine ⟨own_lt ho g rfl, fun j hj => ?_⟩
  have hj2 : j < l.length := by simpa using hj
  refine ⟨?_, by simp [World.frozen?, hcells]⟩
  obtain ⟨ad, cs, e, _, hK, hcc⟩ := Kd.C_get hC (⟨#[]⟩ : ByteArray) (j : Int) (by omega) (by omega)
  cases e
  have : cs = [Value.string (l.getD (j : Int).toNat ⟨#[]⟩)] := hK
  subst this
  have h1 := hcc 0 _ rfl
  rw [add_plain] at h1
  have e2 : (j : Int).toNat * Kd.string.sz + 0 = 0 + j := by
    show (j : Int).toNat * 1 + 0 = _
    omega
  rw [e2] at h1
  rw [h1]
  rw [Int.toNat_natCast, List.getElem!_toArray, List.getElem!_eq_getElem?_getD, List.getElem?_map, List.getD_eq_getElem?_getD, List.getElem?_eq_getElem hj2]
  rfl
theorem own_shape {w : World} {base : Nat} {ok : Nat → Prop} {A : Option Addr} {c : Nat} {l : List ByteArray} (h : Kd.R Kd.string 9 w base ok (.slice A l.length c) l) : (l = [] ∧ A = none) ∨ ∃ g, A = some ⟨g, 0, none⟩ ∧ l.length ≤ c ∧ base ≤ g := by
  obtain ⟨inner, ho⟩ := Kd.R_own h
  rcases ho.2 with ⟨e, h0⟩ | ⟨g', cap, cur, e, hg, hh, h1, h2, h3, h4⟩
  · injection e with e1 e2 e3
    exact .inl ⟨List.eq_nil_of_length_eq_zero h0, e1⟩
  · injection e with e1 e2 e3
    subst e1 e3
    exact .inr ⟨g', rfl, h1, hg⟩
theorem sort_then {w0 w : World} {ok : Nat → Prop} {A : Option Addr} {c : Nat} {l : List ByteArray} (h : Kd.R Kd.string 9 w w0.heap.size ok (.slice A l.length c) l) (hB : Below w0.heap.size w0 w) (hk : OkJ l) :
    Calls Tryz.prog 55 #[.slice A l.length c] w fun e w' => e = .returned (.tuple #[]) ∧ Aside0 (Below w0.heap.size w0 w' ∧ Calls Tryz.prog 56 #[.slice A l.length c, .string ⟨#[]⟩] w' fun e w2 => e = .returned (.string (jn l)) ∧ Below w'.heap.size w' w2) := by
  rcases own_shape h with ⟨rfl, rfl⟩ | ⟨g, rfl, hlc, hbg⟩
  · refine (Tryz.slices_Sort_string_none none c w).mono ?_
    rintro e w' ⟨rfl, rfl⟩
    refine ⟨rfl, ⟨hB, ?_⟩⟩
    rw [jn_nil]
    refine (Tryz.strings_Join_none none c ⟨#[]⟩ w').mono ?_
    rintro e w2 ⟨rfl, rfl⟩
    exact ⟨rfl, Below.refl _ _⟩
  · obtain ⟨hg, hH⟩ := holds_own h
    have hs := Tryz.slices_Sort_string g 0 c (l.map tl) w hH hg (by rw [List.length_map]; have := hk.1; omega)
    rw [List.length_map] at hs
    refine hs.mono ?_
    rintro e w' ⟨rfl, nn, os, rfl⟩
    have hl2 : (srt (l.map tl)).length = l.length := by unfold srt; rw [List.length_mergeSort, List.length_map]
    have hH3 : Holds encStr (grow (putRow encStr (Sort.ahead w nn) g 0 (srt (l.map tl)).toArray) os) g 0 (srt (l.map tl)).toArray :=
      holds_grow encStr _ os _ 0 _ (by simpa [putRow, mapBlock, Sort.ahead] using hg) (holds_putRow encStr _ _ 0 _ _ (by have := holds_ahead encStr w nn _ 0 _ hH; exact this) (by rw [List.size_toArray, List.size_toArray, hl2, List.length_map]))
    have hB3 : Below w0.heap.size w0 (grow (putRow encStr (Sort.ahead w nn) g 0 (srt (l.map tl)).toArray) os) := hB.grown (grownBy_sorted _) hB.size (fun j hj => by cases hj; exact hbg)
    refine ⟨rfl, ⟨hB3, ?_⟩⟩
    have hgl : g < (grow (putRow encStr (Sort.ahead w nn) g 0 (srt (l.map tl)).toArray) os).heap.size := Nat.lt_of_lt_of_le hg ((grownBy_sorted (w := w) (n := nn) (g := g) (os := os) _).size)
    have hj := Tryz.strings_Join g 0 c (srtB l) ⟨#[]⟩ _ (fun j x hx => ?_) hgl (by rw [srtB_length]; have := hk.1; omega) (by rw [srtB_length]; exact hlc) hk.2
    · rw [srtB_length] at hj
      exact hj
    · have hj : j < (srtB l).length := (List.getElem?_eq_some_iff.1 hx).1
      have := (hH3 j (by rw [List.size_toArray, hl2, ← srtB_length l]; exact hj)).1
      rw [this]
      have e2 : (srt (l.map tl)).toArray[j]! = tl x := by
        rw [← sorted_map, List.getElem!_toArray, List.getElem!_eq_getElem?_getD, List.getElem?_map, hx]
        rfl
      rw [e2]
end Go.Proofs.YtpdhbpdfldfnhaaGreatDoor.Rk
/- of Nmx0 -/
-- Printed by the session's hookprint.py (the kit's print, some functions given by hand).
namespace Go.Proofs.YtpdhbpdfldfnhaaGreatDoor.Nm
open Go.RowKit Go.Proofs.YtpdhbpdfldfnhaaGreatDoorW.PrintWords Go.Proofs.YtpdhbpdfldfnhaaGreatDoorW.PrintLast Go.Proofs.YtpdhbpdfldfnhaaGreatDoorW.PrintMore
attribute [local go_sem] max2_int min2_int max_two min_two max_three min_three max_four min_four   -- for this text's walks alone



def errW : Option Int → Value
  | none => .nilIface
  | some c => .iface 0 (.int .i64 c)
theorem errW_none : errW none = .nilIface := rfl
theorem errW_some (c : Int) : errW (some c) = .iface 0 (.int .i64 c) := rfl

theorem info9 : (Tryz.prog.info? 9).map (fun i => (i.zero, i.size, i.bytes)) = some (some (.string ⟨#[]⟩), 1, 16) := by kernel_rfl
-- the values' own types
def rd_L3 (xs : List (List Int)) (i : Int) : (List Int) := xs.getD i.toNat ([] : List Int)
theorem at_L3 {w : World} {A : Option Addr} {n : Nat} {xs : List (List Int)} (h : Kd.C (Kd.slice 5 (Kd.int .u8)) w A n xs) (i : Int) (h0 : 0 ≤ i) (h1 : i < n) : ∃ ad A0 c0, A = some ad ∧ w.cell? (ad.add i.toNat) = some (.slice A0 (rd_L3 xs i).length c0) ∧ (rd_L3 xs i).length ≤ c0 ∧ (Kd.int .u8).C w A0 (rd_L3 xs i).length (rd_L3 xs i) := by
  obtain ⟨ad, c, e, _, hK, hc0⟩ := Kd.C_get h ([] : List Int) i h0 h1
  have hc : ∀ j u, c[j]? = some u → w.cell? (ad.add (i.toNat * 1 + j)) = some u := hc0
  obtain ⟨A0, c0, rfl, l0, g0⟩ := hK
  exact ⟨ad, A0, c0, e, by have hq := hc 0 _ rfl; rwa [Nat.mul_one, Nat.add_zero] at hq, l0, g0⟩

/-! #### struct type 41 -/
structure S41 where
  f0 : ByteArray
  f1 : Int
  f2 : (List Int)
def z41 : S41 := ⟨(⟨#[]⟩ : ByteArray), (0 : Int), ([] : List Int)⟩
def k41 : Kd S41 := Kd.iso (Kd.pair Kd.string (Kd.pair (Kd.int .i64) (Kd.slice 5 (Kd.int .u8)))) (fun x : S41 => (x.f0, x.f1, x.f2))
theorem k41_open {w : World} {x : S41} {cs : List Value} (h : k41.K w x cs) : ∃ A2 c2, cs = [.string x.f0, .int .i64 x.f1, .slice A2 x.f2.length c2] ∧ x.f2.length ≤ c2 ∧ (Kd.int .u8).C w A2 x.f2.length x.f2 := by
  obtain ⟨_, _, rfl, rfl, ⟨_, _, rfl, rfl, ⟨A2, c2, rfl, l2, g2⟩⟩⟩ := h
  exact ⟨A2, c2, rfl, l2, g2⟩
theorem k41_openM {w : World} {base : Nat} {ok : Nat → Prop} {x : S41} {cs : List Value} (h : k41.M w base ok x cs) : ∃ v2, cs = [.string x.f0, .int .i64 x.f1, v2] ∧ (Kd.int .u8).R 5 w base ok v2 x.f2 := by
  obtain ⟨_, _, rfl, rfl, ⟨_, _, rfl, rfl, ⟨v2, rfl, g2⟩⟩⟩ := h
  exact ⟨v2, rfl, g2⟩
theorem k41_mk (w : World) (x : S41) {A2 : Option Addr} {c2 : Nat} (l2 : x.f2.length ≤ c2) (g2 : (Kd.int .u8).C w A2 x.f2.length x.f2) : k41.K w x [.string x.f0, .int .i64 x.f1, .slice A2 x.f2.length c2] := ⟨[.string x.f0], [.int .i64 x.f1, .slice A2 x.f2.length c2], rfl, rfl, ⟨[.int .i64 x.f1], [.slice A2 x.f2.length c2], rfl, rfl, ⟨A2, c2, rfl, l2, g2⟩⟩⟩
theorem k41_mkM (w : World) (base : Nat) (ok : Nat → Prop) (x : S41) {v2 : Value} (g2 : (Kd.int .u8).R 5 w base ok v2 x.f2) : k41.M w base ok x [.string x.f0, .int .i64 x.f1, v2] := ⟨[.string x.f0], [.int .i64 x.f1, v2], rfl, rfl, ⟨[.int .i64 x.f1], [v2], rfl, rfl, ⟨v2, rfl, g2⟩⟩⟩
def rd_T41 (xs : List S41) (i : Int) : S41 := xs.getD i.toNat z41
theorem at_T41 {w : World} {A : Option Addr} {n : Nat} {xs : List S41} (h : Kd.C k41 w A n xs) (i : Int) (h0 : 0 ≤ i) (h1 : i < n) : ∃ ad A2 c2, A = some ad ∧ w.cell? (ad.add (i.toNat * 3)) = some (.string (rd_T41 xs i).f0) ∧ w.cell? ⟨(ad.add (i.toNat * 3)).block, (ad.add (i.toNat * 3)).off + 1, none⟩ = some (.int .i64 (rd_T41 xs i).f1) ∧ w.cell? ⟨(ad.add (i.toNat * 3)).block, (ad.add (i.toNat * 3)).off + 2, none⟩ = some (.slice A2 (rd_T41 xs i).f2.length c2) ∧ (rd_T41 xs i).f2.length ≤ c2 ∧ (Kd.int .u8).C w A2 (rd_T41 xs i).f2.length (rd_T41 xs i).f2 := by
  obtain ⟨ad, c, e, _, hK, hc0⟩ := Kd.C_get h z41 i h0 h1
  have hc : ∀ j u, c[j]? = some u → w.cell? (ad.add (i.toNat * 3 + j)) = some u := hc0
  obtain ⟨A2, c2, rfl, l2, g2⟩ := k41_open hK
  exact ⟨ad, A2, c2, e, hc 0 _ rfl, by rw [← add_field _ _ 1 (by omega)]; exact hc 1 _ rfl, by rw [← add_field _ _ 2 (by omega)]; exact hc 2 _ rfl, l2, g2⟩

def rd_L5 (xs : List (List S41)) (i : Int) : (List S41) := xs.getD i.toNat ([] : List S41)
theorem at_L5 {w : World} {A : Option Addr} {n : Nat} {xs : List (List S41)} (h : Kd.C (Kd.slice 41 k41) w A n xs) (i : Int) (h0 : 0 ≤ i) (h1 : i < n) : ∃ ad A0 c0, A = some ad ∧ w.cell? (ad.add i.toNat) = some (.slice A0 (rd_L5 xs i).length c0) ∧ (rd_L5 xs i).length ≤ c0 ∧ k41.C w A0 (rd_L5 xs i).length (rd_L5 xs i) := by
  obtain ⟨ad, c, e, _, hK, hc0⟩ := Kd.C_get h ([] : List S41) i h0 h1
  have hc : ∀ j u, c[j]? = some u → w.cell? (ad.add (i.toNat * 1 + j)) = some u := hc0
  obtain ⟨A0, c0, rfl, l0, g0⟩ := hK
  exact ⟨ad, A0, c0, e, by have hq := hc 0 _ rfl; rwa [Nat.mul_one, Nat.add_zero] at hq, l0, g0⟩

def rd_L6 (xs : List (List (List S41))) (i : Int) : (List (List S41)) := xs.getD i.toNat ([] : List (List S41))
theorem at_L6 {w : World} {A : Option Addr} {n : Nat} {xs : List (List (List S41))} (h : Kd.C (Kd.slice 39 (Kd.slice 41 k41)) w A n xs) (i : Int) (h0 : 0 ≤ i) (h1 : i < n) : ∃ ad A0 c0, A = some ad ∧ w.cell? (ad.add i.toNat) = some (.slice A0 (rd_L6 xs i).length c0) ∧ (rd_L6 xs i).length ≤ c0 ∧ (Kd.slice 41 k41).C w A0 (rd_L6 xs i).length (rd_L6 xs i) := by
  obtain ⟨ad, c, e, _, hK, hc0⟩ := Kd.C_get h ([] : List (List S41)) i h0 h1
  have hc : ∀ j u, c[j]? = some u → w.cell? (ad.add (i.toNat * 1 + j)) = some u := hc0
  obtain ⟨A0, c0, rfl, l0, g0⟩ := hK
  exact ⟨ad, A0, c0, e, by have hq := hc 0 _ rfl; rwa [Nat.mul_one, Nat.add_zero] at hq, l0, g0⟩

/-! #### struct type 25 -/
structure S25 where
  f0 : Int
  f1 : ByteArray
  f2 : (List Int)
  f3 : (List (List S41))
def z25 : S25 := ⟨(0 : Int), (⟨#[]⟩ : ByteArray), ([] : List Int), ([] : List (List S41))⟩
def k25 : Kd S25 := Kd.iso (Kd.pair (Kd.int .i64) (Kd.pair Kd.string (Kd.pair (Kd.slice 5 (Kd.int .u8)) (Kd.slice 39 (Kd.slice 41 k41))))) (fun x : S25 => (x.f0, x.f1, x.f2, x.f3))
theorem k25_open {w : World} {x : S25} {cs : List Value} (h : k25.K w x cs) : ∃ A2 c2 A3 c3, cs = [.int .i64 x.f0, .string x.f1, .slice A2 x.f2.length c2, .slice A3 x.f3.length c3] ∧ x.f2.length ≤ c2 ∧ (Kd.int .u8).C w A2 x.f2.length x.f2 ∧ x.f3.length ≤ c3 ∧ (Kd.slice 41 k41).C w A3 x.f3.length x.f3 := by
  obtain ⟨_, _, rfl, rfl, ⟨_, _, rfl, rfl, ⟨_, _, rfl, ⟨A2, c2, rfl, l2, g2⟩, ⟨A3, c3, rfl, l3, g3⟩⟩⟩⟩ := h
  exact ⟨A2, c2, A3, c3, rfl, l2, g2, l3, g3⟩
theorem k25_openM {w : World} {base : Nat} {ok : Nat → Prop} {x : S25} {cs : List Value} (h : k25.M w base ok x cs) : ∃ v2 v3, cs = [.int .i64 x.f0, .string x.f1, v2, v3] ∧ (Kd.int .u8).R 5 w base ok v2 x.f2 ∧ (Kd.slice 41 k41).R 39 w base ok v3 x.f3 := by
  obtain ⟨_, _, rfl, rfl, ⟨_, _, rfl, rfl, ⟨_, _, rfl, ⟨v2, rfl, g2⟩, ⟨v3, rfl, g3⟩⟩⟩⟩ := h
  exact ⟨v2, v3, rfl, g2, g3⟩
theorem k25_mk (w : World) (x : S25) {A2 : Option Addr} {c2 : Nat} (l2 : x.f2.length ≤ c2) (g2 : (Kd.int .u8).C w A2 x.f2.length x.f2) {A3 : Option Addr} {c3 : Nat} (l3 : x.f3.length ≤ c3) (g3 : (Kd.slice 41 k41).C w A3 x.f3.length x.f3) : k25.K w x [.int .i64 x.f0, .string x.f1, .slice A2 x.f2.length c2, .slice A3 x.f3.length c3] := ⟨[.int .i64 x.f0], [.string x.f1, .slice A2 x.f2.length c2, .slice A3 x.f3.length c3], rfl, rfl, ⟨[.string x.f1], [.slice A2 x.f2.length c2, .slice A3 x.f3.length c3], rfl, rfl, ⟨[.slice A2 x.f2.length c2], [.slice A3 x.f3.length c3], rfl, ⟨A2, c2, rfl, l2, g2⟩, ⟨A3, c3, rfl, l3, g3⟩⟩⟩⟩
theorem k25_mkM (w : World) (base : Nat) (ok : Nat → Prop) (x : S25) {v2 : Value} (g2 : (Kd.int .u8).R 5 w base ok v2 x.f2) {v3 : Value} (g3 : (Kd.slice 41 k41).R 39 w base ok v3 x.f3) : k25.M w base ok x [.int .i64 x.f0, .string x.f1, v2, v3] := ⟨[.int .i64 x.f0], [.string x.f1, v2, v3], rfl, rfl, ⟨[.string x.f1], [v2, v3], rfl, rfl, ⟨[v2], [v3], rfl, ⟨v2, rfl, g2⟩, ⟨v3, rfl, g3⟩⟩⟩⟩
def rd_T25 (xs : List S25) (i : Int) : S25 := xs.getD i.toNat z25
theorem at_T25 {w : World} {A : Option Addr} {n : Nat} {xs : List S25} (h : Kd.C k25 w A n xs) (i : Int) (h0 : 0 ≤ i) (h1 : i < n) : ∃ ad A2 c2 A3 c3, A = some ad ∧ w.cell? (ad.add (i.toNat * 4)) = some (.int .i64 (rd_T25 xs i).f0) ∧ w.cell? ⟨(ad.add (i.toNat * 4)).block, (ad.add (i.toNat * 4)).off + 1, none⟩ = some (.string (rd_T25 xs i).f1) ∧ w.cell? ⟨(ad.add (i.toNat * 4)).block, (ad.add (i.toNat * 4)).off + 2, none⟩ = some (.slice A2 (rd_T25 xs i).f2.length c2) ∧ w.cell? ⟨(ad.add (i.toNat * 4)).block, (ad.add (i.toNat * 4)).off + 3, none⟩ = some (.slice A3 (rd_T25 xs i).f3.length c3) ∧ (rd_T25 xs i).f2.length ≤ c2 ∧ (Kd.int .u8).C w A2 (rd_T25 xs i).f2.length (rd_T25 xs i).f2 ∧ (rd_T25 xs i).f3.length ≤ c3 ∧ (Kd.slice 41 k41).C w A3 (rd_T25 xs i).f3.length (rd_T25 xs i).f3 := by
  obtain ⟨ad, c, e, _, hK, hc0⟩ := Kd.C_get h z25 i h0 h1
  have hc : ∀ j u, c[j]? = some u → w.cell? (ad.add (i.toNat * 4 + j)) = some u := hc0
  obtain ⟨A2, c2, A3, c3, rfl, l2, g2, l3, g3⟩ := k25_open hK
  exact ⟨ad, A2, c2, A3, c3, e, hc 0 _ rfl, by rw [← add_field _ _ 1 (by omega)]; exact hc 1 _ rfl, by rw [← add_field _ _ 2 (by omega)]; exact hc 2 _ rfl, by rw [← add_field _ _ 3 (by omega)]; exact hc 3 _ rfl, l2, g2, l3, g3⟩

end Go.Proofs.YtpdhbpdfldfnhaaGreatDoor.Nm
/- of Nmx1 -/
-- Printed by the session's hookprint.py (the kit's print, some functions given by hand).
namespace Go.Proofs.YtpdhbpdfldfnhaaGreatDoor.Nm
open Go.RowKit Go.Proofs.YtpdhbpdfldfnhaaGreatDoorW.PrintWords Go.Proofs.YtpdhbpdfldfnhaaGreatDoorW.PrintLast Go.Proofs.YtpdhbpdfldfnhaaGreatDoorW.PrintMore
attribute [local go_sem] max2_int min2_int max_two min_two max_three min_three max_four min_four   -- for this text's walks alone

/-! ### text_Key: function 53, by hand -/
def text_Key.f (k : Nat) (a0 : Int) (l1 : List Int) : Option (ByteArray) := K.text_Key.f k a0 l1
theorem text_Key.mono : ∀ a0 a1 k, LeO (text_Key.f k a0 a1) (text_Key.f (k + 1) a0 a1) := K.text_Key.mono
theorem text_Key.calls (k : Nat) (a0 : Int) (A1 : Option Addr) (c1 : Nat) (l1 : List Int) (r : ByteArray) (w : World) (hr1 : Kd.C (Kd.int .u8) w A1 l1.length l1) (hc1 : l1.length ≤ c1) (hT_ : Go.Proofs.YtpdhbpdfldfnhaaGreatDoor.Tabs w) (h : text_Key.f k a0 l1 = some r) : Calls Tryz.prog 53 #[.int .i64 a0, .slice A1 l1.length c1] w fun e w' => e = .returned (.string r) ∧ Below w.heap.size w w' := K.text_Key.calls k a0 A1 c1 l1 r w hr1 hc1 hT_ h

/-! ### strconv_Itoa: function 54, by hand -/
def strconv_Itoa.f (a0 : Int) : Option ByteArray := Go.Proofs.YtpdhbpdfldfnhaaGreatDoor.Tx.itoa_f a0
theorem strconv_Itoa.calls (a0 : Int) (r : ByteArray) (w : World) (hT_ : Go.Proofs.YtpdhbpdfldfnhaaGreatDoor.Tabs w) (h : strconv_Itoa.f a0 = some r) : Calls Tryz.prog 54 #[.int .i64 a0] w fun e w' => e = .returned (.string r) ∧ Below w.heap.size w w' := Go.Proofs.YtpdhbpdfldfnhaaGreatDoor.Tx.itoa_calls a0 r w hT_ h

/-! ### slices_Sort_string_string: function 55, by hand -/
def slices_Sort_string_string.f (l0 : List ByteArray) : Option Unit := if Go.Proofs.YtpdhbpdfldfnhaaGreatDoor.Rk.OkJ l0 then some () else none

/-! ### strings_Join: function 56, by hand -/
def strings_Join.f (l0 : List ByteArray) (a1 : ByteArray) : Option ByteArray := some (Go.Proofs.YtpdhbpdfldfnhaaGreatDoor.Rk.jn l0)

/-! ### name_mark: function 47 -/
def name_mark.l0 : Nat → List ByteArray → List (S41) → Int → Int → Option (ByteArray)
  | 0, _, _, _, _ => none
  | k + 1, x3, x7, x8, x9 => if x9 < x8 then (if 0 ≤ x9 then (if x9 < (x7.length : Int) then ((text_Key.f k ((rd_T41 x7 x9).f1) ((rd_T41 x7 x9).f2)).bind fun t103 => (if ((rd_T41 x7 x9).f0).size + 1 ≤ 9223372036854775807 then ((strconv_Itoa.f (t103.size : Int)).bind fun t104 => (if (((rd_T41 x7 x9).f0) ++ (⟨#[61]⟩ : ByteArray)).size + t104.size ≤ 9223372036854775807 then (if ((((rd_T41 x7 x9).f0) ++ (⟨#[61]⟩ : ByteArray)) ++ t104).size + 1 ≤ 9223372036854775807 then (if (((((rd_T41 x7 x9).f0) ++ (⟨#[61]⟩ : ByteArray)) ++ t104) ++ (⟨#[58]⟩ : ByteArray)).size + t103.size ≤ 9223372036854775807 then (if ((((((rd_T41 x7 x9).f0) ++ (⟨#[61]⟩ : ByteArray)) ++ t104) ++ (⟨#[58]⟩ : ByteArray)) ++ t103).size + 1 ≤ 9223372036854775807 then (if x3.length < 8796093022208 then (name_mark.l0 k (x3 ++ [((((((rd_T41 x7 x9).f0) ++ (⟨#[61]⟩ : ByteArray)) ++ t104) ++ (⟨#[58]⟩ : ByteArray)) ++ t103) ++ (⟨#[59]⟩ : ByteArray)]) x7 x8 (wrap64 (x9 + 1))) else (none)) else (none)) else (none)) else (none)) else (none))) else (none))) else (none)) else (none)) else ((slices_Sort_string_string.f x3).bind fun _ => ((strings_Join.f x3 (⟨#[]⟩ : ByteArray)).bind fun t108 => (if t108.size + 1 ≤ 9223372036854775807 then (some (t108 ++ (⟨#[47]⟩ : ByteArray))) else (none))))
def name_mark.f (k : Nat) (l0 : List (S41)) : Option (ByteArray) := name_mark.l0 k ([] : List ByteArray) l0 (l0.length : Int) 0
theorem name_mark.mono_l : ∀ k, (∀ y0 y1 y2 y3, LeO (name_mark.l0 k y0 y1 y2 y3) (name_mark.l0 (k + 1) y0 y1 y2 y3))
  | 0 => fun _ _ _ _ r h => by simp [name_mark.l0] at h
  | k + 1 => by
    have ih0 := name_mark.mono_l k
    · intro y0 y1 y2 y3
      unfold name_mark.l0
      repeat' first
      | (with_reducible exact ih0 _ _ _ _)
      | (with_reducible exact text_Key.mono _ _ _)
      | (with_reducible exact LeO.refl _)
      | (with_reducible exact LeO.none _)
      | (with_reducible refine LeO.ite ?_ ?_)
      | (with_reducible refine LeO.bind ?_ (fun _ => ?_))
      | exact ih0 _ _ _ _
      | exact text_Key.mono _ _ _
      | exact LeO.none _
      | refine LeO.ite ?_ ?_
      | refine LeO.bind ?_ (fun _ => ?_)
theorem name_mark.mono : ∀ a0 k, LeO (name_mark.f k a0) (name_mark.f (k + 1) a0) := by
  intro a0 k
  have ih0 := name_mark.mono_l k
  unfold name_mark.f
  repeat' first
      | (with_reducible exact ih0 _ _ _ _)
      | (with_reducible exact text_Key.mono _ _ _)
      | (with_reducible exact LeO.refl _)
      | (with_reducible exact LeO.none _)
      | (with_reducible refine LeO.ite ?_ ?_)
      | (with_reducible refine LeO.bind ?_ (fun _ => ?_))
      | exact ih0 _ _ _ _
      | exact text_Key.mono _ _ _
      | exact LeO.none _
      | refine LeO.ite ?_ ?_
      | refine LeO.bind ?_ (fun _ => ?_)
def name_mark.T6 : Bool × List (List Nat × List Nat) := (true, [([], []), ([], []), ([1], [1]), ([2], [2]), ([], []), ([4], [4]), ([5], [5]), ([3, 6], [3, 6]), ([7], [7]), ([], []), ([8, 9], [8, 9]), ([10], [10]), ([11], [11]), ([0, 12, 6], [0, 12]), ([13, 13, 0, 1, 2, 3, 4, 5, 6, 7, 8, 9, 10, 11, 12, 13], [0, 13])])
def name_mark.B6 : List Nat := [0, 0, 2, 6, 0, 16, 48, 126, 254, 0, 1022, 2046, 4094, 8191, 16383]
theorem name_mark.tab6 : rtab .any (opsOf Tryz.f47 6) = name_mark.T6 := by kernel_rfl
theorem name_mark.bits6 : waitsOk name_mark.T6.2 name_mark.B6 = true := by kernel_rfl
set_option maxHeartbeats 8000000 in
set_option maxRecDepth 100000 in
theorem name_mark.calls (k : Nat) (A0 : Option Addr) (c0 : Nat) (l0 : List (S41)) (r : ByteArray) (w : World) (hr0 : Kd.C k41 w A0 l0.length l0) (hc0 : l0.length ≤ c0) (hT_ : Go.Proofs.YtpdhbpdfldfnhaaGreatDoor.Tabs w) (h : name_mark.f k l0 = some r) :
    Calls Tryz.prog 47 #[.slice A0 l0.length c0] w fun e w' => e = .returned (.string r) ∧ Below w.heap.size w w' := by
  have hu41 := Tryz.underlying41
  have HR0 := Aside0.mk hr0
  have HC0 := Aside0.mk hc0
  clear hr0 hc0
  have HB := Aside0.mk (Below.refl w.heap.size w)
  have H : (name_mark.l0 k ([] : List ByteArray) l0 (l0.length : Int) 0) = some r := h
  clear h
  have H' := Aside0.mk H
  clear H
  go_enter Tryz.func47, Tryz.ntmps47
  go_wp2
  go_loopg [3, 9] k (fun kq v3 v9 w' => ∃ (x3_1 : List ByteArray) (x9_1 : Int), v9 = .int .i64 x9_1 ∧ Aside0 (name_mark.l0 kq x3_1 l0 (l0.length : Int) x9_1 = some r) ∧ Aside0 (kq ≤ k) ∧ Aside0 (Kd.R Kd.string 9 w' w.heap.size (fun _ => True) v3 x3_1) ∧ Aside0 (Below w.heap.size w w'))
  case atStart => exact ⟨(([] : List ByteArray)), (0), (by first | rfl | (simp; done) | (simp [*]; done)), H', ⟨Nat.le_refl _⟩, ⟨by first | exact Kd.R_nil _ _ _ _ _ | exact Kd.N_nil _ _ _ _ _ | exact Kd.V_nil _ _ _ _ _ | exact Kd.Q_nil _ _ _ _ _ | exact Kd.S_nil _ _ _ _ _⟩, ⟨by repeat (first | (with_reducible first | exact HB.out | apply below_alloc | apply pw_below_drewN | apply below_drew1) | exact HB.out)⟩⟩
  case round =>
    clear H'
    obtain ⟨x3_1, x9_1, rfl, HA, HK1, HO_3, HB⟩ := hrel
    cases gk with
    | zero => exact absurd HA.out (by simp [name_mark.l0])
    | succ k1 =>
      have H := HA.out
      clear HA
      simp only [name_mark.l0] at H
      by_cases c2 : x9_1 < (l0.length : Int)
      · rw [if_pos c2] at H
        have c2b0 : decide (x9_1 < (l0.length : Int)) = true := decide_eq_true c2
        clear c2
        by_cases c3 : 0 ≤ x9_1
        · rw [if_pos c3] at H
          have c3b0 : decide (0 ≤ x9_1) = true := decide_eq_true c3
          clear c3
          by_cases c4 : x9_1 < (l0.length : Int)
          · rw [if_pos c4] at H
            have c4b0 : decide (x9_1 < (l0.length : Int)) = true := decide_eq_true c4
            clear c4
            replace H := Option.bind_eq_some_iff.mp H
            obtain ⟨t103, A50, H⟩ := H
            replace H : (if ((rd_T41 l0 x9_1).f0).size + 1 ≤ 9223372036854775807 then ((strconv_Itoa.f (t103.size : Int)).bind fun t104 => (if (((rd_T41 l0 x9_1).f0) ++ (⟨#[61]⟩ : ByteArray)).size + t104.size ≤ 9223372036854775807 then (if ((((rd_T41 l0 x9_1).f0) ++ (⟨#[61]⟩ : ByteArray)) ++ t104).size + 1 ≤ 9223372036854775807 then (if (((((rd_T41 l0 x9_1).f0) ++ (⟨#[61]⟩ : ByteArray)) ++ t104) ++ (⟨#[58]⟩ : ByteArray)).size + t103.size ≤ 9223372036854775807 then (if ((((((rd_T41 l0 x9_1).f0) ++ (⟨#[61]⟩ : ByteArray)) ++ t104) ++ (⟨#[58]⟩ : ByteArray)) ++ t103).size + 1 ≤ 9223372036854775807 then (if x3_1.length < 8796093022208 then (name_mark.l0 k1 (x3_1 ++ [((((((rd_T41 l0 x9_1).f0) ++ (⟨#[61]⟩ : ByteArray)) ++ t104) ++ (⟨#[58]⟩ : ByteArray)) ++ t103) ++ (⟨#[59]⟩ : ByteArray)]) l0 (l0.length : Int) (wrap64 (x9_1 + 1))) else (none)) else (none)) else (none)) else (none)) else (none))) else (none)) = some r := H
            have A5 := Aside0.mk A50
            clear A50
            by_cases c6 : ((rd_T41 l0 x9_1).f0).size + 1 ≤ 9223372036854775807
            · rw [if_pos c6] at H
              have c6b0 := eq_true c6
              have c6b1 : decide (((rd_T41 l0 x9_1).f0).size + 1 ≤ 9223372036854775807) = true := decide_eq_true c6
              try have c6b2 : (9223372036854775807 < ((rd_T41 l0 x9_1).f0).size + 1) = False := eq_false (Nat.not_lt.2 c6)
              replace H := Option.bind_eq_some_iff.mp H
              obtain ⟨t104, A70, H⟩ := H
              replace H : (if (((rd_T41 l0 x9_1).f0) ++ (⟨#[61]⟩ : ByteArray)).size + t104.size ≤ 9223372036854775807 then (if ((((rd_T41 l0 x9_1).f0) ++ (⟨#[61]⟩ : ByteArray)) ++ t104).size + 1 ≤ 9223372036854775807 then (if (((((rd_T41 l0 x9_1).f0) ++ (⟨#[61]⟩ : ByteArray)) ++ t104) ++ (⟨#[58]⟩ : ByteArray)).size + t103.size ≤ 9223372036854775807 then (if ((((((rd_T41 l0 x9_1).f0) ++ (⟨#[61]⟩ : ByteArray)) ++ t104) ++ (⟨#[58]⟩ : ByteArray)) ++ t103).size + 1 ≤ 9223372036854775807 then (if x3_1.length < 8796093022208 then (name_mark.l0 k1 (x3_1 ++ [((((((rd_T41 l0 x9_1).f0) ++ (⟨#[61]⟩ : ByteArray)) ++ t104) ++ (⟨#[58]⟩ : ByteArray)) ++ t103) ++ (⟨#[59]⟩ : ByteArray)]) l0 (l0.length : Int) (wrap64 (x9_1 + 1))) else (none)) else (none)) else (none)) else (none)) else (none)) = some r := H
              have A7 := Aside0.mk A70
              clear A70
              by_cases c8 : (((rd_T41 l0 x9_1).f0) ++ (⟨#[61]⟩ : ByteArray)).size + t104.size ≤ 9223372036854775807
              · rw [if_pos c8] at H
                have c8b0 := eq_true c8
                have c8b1 : decide ((((rd_T41 l0 x9_1).f0) ++ (⟨#[61]⟩ : ByteArray)).size + t104.size ≤ 9223372036854775807) = true := decide_eq_true c8
                try have c8b2 : (9223372036854775807 < (((rd_T41 l0 x9_1).f0) ++ (⟨#[61]⟩ : ByteArray)).size + t104.size) = False := eq_false (Nat.not_lt.2 c8)
                by_cases c9 : ((((rd_T41 l0 x9_1).f0) ++ (⟨#[61]⟩ : ByteArray)) ++ t104).size + 1 ≤ 9223372036854775807
                · rw [if_pos c9] at H
                  have c9b0 := eq_true c9
                  have c9b1 : decide (((((rd_T41 l0 x9_1).f0) ++ (⟨#[61]⟩ : ByteArray)) ++ t104).size + 1 ≤ 9223372036854775807) = true := decide_eq_true c9
                  try have c9b2 : (9223372036854775807 < ((((rd_T41 l0 x9_1).f0) ++ (⟨#[61]⟩ : ByteArray)) ++ t104).size + 1) = False := eq_false (Nat.not_lt.2 c9)
                  by_cases c10 : (((((rd_T41 l0 x9_1).f0) ++ (⟨#[61]⟩ : ByteArray)) ++ t104) ++ (⟨#[58]⟩ : ByteArray)).size + t103.size ≤ 9223372036854775807
                  · rw [if_pos c10] at H
                    have c10b0 := eq_true c10
                    have c10b1 : decide ((((((rd_T41 l0 x9_1).f0) ++ (⟨#[61]⟩ : ByteArray)) ++ t104) ++ (⟨#[58]⟩ : ByteArray)).size + t103.size ≤ 9223372036854775807) = true := decide_eq_true c10
                    try have c10b2 : (9223372036854775807 < (((((rd_T41 l0 x9_1).f0) ++ (⟨#[61]⟩ : ByteArray)) ++ t104) ++ (⟨#[58]⟩ : ByteArray)).size + t103.size) = False := eq_false (Nat.not_lt.2 c10)
                    by_cases c11 : ((((((rd_T41 l0 x9_1).f0) ++ (⟨#[61]⟩ : ByteArray)) ++ t104) ++ (⟨#[58]⟩ : ByteArray)) ++ t103).size + 1 ≤ 9223372036854775807
                    · rw [if_pos c11] at H
                      have hs61 : (⟨#[61]⟩ : ByteArray).size = 1 := rfl
                      have hs58 : (⟨#[58]⟩ : ByteArray).size = 1 := rfl
                      have d8 : (9223372036854775807 < (rd_T41 l0 x9_1).f0.size + 1 + t104.size) = False := eq_false (by have := c8; simp only [ByteArray.size_append, hs61, hs58] at this; omega)
                      have d9 : (9223372036854775807 < (rd_T41 l0 x9_1).f0.size + 1 + t104.size + 1) = False := eq_false (by have := c9; simp only [ByteArray.size_append, hs61, hs58] at this; omega)
                      have d10 : (9223372036854775807 < (rd_T41 l0 x9_1).f0.size + 1 + t104.size + 1 + t103.size) = False := eq_false (by have := c10; simp only [ByteArray.size_append, hs61, hs58] at this; omega)
                      have d11 : (9223372036854775807 < (rd_T41 l0 x9_1).f0.size + 1 + t104.size + 1 + t103.size + 1) = False := eq_false (by have := c11; simp only [ByteArray.size_append, hs61, hs58] at this; omega)
                      clear hs61 hs58
                      have c11b0 := eq_true c11
                      have c11b1 : decide (((((((rd_T41 l0 x9_1).f0) ++ (⟨#[61]⟩ : ByteArray)) ++ t104) ++ (⟨#[58]⟩ : ByteArray)) ++ t103).size + 1 ≤ 9223372036854775807) = true := decide_eq_true c11
                      try have c11b2 : (9223372036854775807 < ((((((rd_T41 l0 x9_1).f0) ++ (⟨#[61]⟩ : ByteArray)) ++ t104) ++ (⟨#[58]⟩ : ByteArray)) ++ t103).size + 1) = False := eq_false (Nat.not_lt.2 c11)
                      by_cases c12 : x3_1.length < 8796093022208
                      · rw [if_pos c12] at H
                        have LMc12 := Aside0.mk c12
                        clear c12
                        obtain ⟨y105, hy105⟩ : ∃ y_ : List ByteArray, y_ = (x3_1 ++ [((((((rd_T41 l0 x9_1).f0) ++ (⟨#[61]⟩ : ByteArray)) ++ t104) ++ (⟨#[58]⟩ : ByteArray)) ++ t103) ++ (⟨#[59]⟩ : ByteArray)]) := ⟨_, rfl⟩
                        replace H : (name_mark.l0 k1 y105 l0 (l0.length : Int) (wrap64 (x9_1 + 1))) = some r := by first | (rw [hy105]; with_reducible exact H) | (have H2_ := (Option.bind_some _ _).symm.trans H; rw [hy105]; with_reducible exact H2_) | (have H2_ := (Option.bind_some _ _).symm.trans H; with_reducible exact H2_) | with_reducible exact H | (rw [hy105]; exact H) | exact H
                        have Ny105 := Aside0.mk hy105
                        clear hy105
                        have H' := Aside0.mk H
                        clear H
                        have p101 : 0 ≤ (x9_1 : Int) := of_decide_eq_true (by first | (with_reducible assumption) | assumption)
                        have q101 : x9_1 < (l0.length : Int) := of_decide_eq_true (by first | (with_reducible assumption) | assumption)
                        obtain ⟨ad101, A101_2, c101_2, e101, hx101_0, hx101_1, hx101_2, hl101_2, hi101_2⟩ := at_T41 HR0.out x9_1 p101 q101
                        cases e101
                        replace hx101_0 := (HB.out.cell (World.block_lt_of_cell? w _ hx101_0)).trans hx101_0
                        replace hx101_1 := (HB.out.cell (World.block_lt_of_cell? w _ hx101_1)).trans hx101_1
                        replace hx101_2 := (HB.out.cell (World.block_lt_of_cell? w _ hx101_2)).trans hx101_2
                        have HR101_2 := Aside0.mk hi101_2
                        have HC101_2 := Aside0.mk hl101_2
                        clear hi101_2 hl101_2
                        replace p101 := eq_true p101
                        replace q101 := eq_true q101
                        try go_wp2_with (first | ((with_reducible refine gate_dst (N := 5) rfl ?_); refine box_event ?hg (N := 5) ?hd (cs := #[.string (⟨#[]⟩ : ByteArray), .int .i64 0, .slice none 0 0]) (t := 41) ?hr ?_; (case hd => rfl); (case hg => rfl); (case hr => first | (go_simp; done) | (go_simp; rfl)); intro gb102 hg w13 hbox hb; have n0_ := Aside0.mk (Kd.R_below (by (with_reducible repeat (first | apply Kd.R_alloc | apply Kd.R_drewN | apply Kd.R_drew)); exact HO_3.out) hb); have n1_ := Aside0.mk (below_step (by repeat (first | (with_reducible first | exact HB.out | apply below_alloc | apply pw_below_drewN | apply below_drew1) | exact HB.out)) hb); have n2_ := Aside0.mk (hbox); have n3_ := Aside0.mk ((by rw [hg]; exact (below_size (by repeat (first | (with_reducible first | exact HB.out | apply below_alloc | apply pw_below_drewN | apply below_drew1) | exact HB.out))) : w.heap.size ≤ gb102)); have n4_ := Aside0.mk ((by rw [hg]; exact (below_size (by repeat (first | (with_reducible first | exact HB.out | apply below_alloc | apply pw_below_drewN | apply below_drew1) | exact HB.out))) : w.heap.size ≤ gb102)); clear HO_3; clear HB; have HO_3 := n0_; have HB := n1_; have BK102 := n2_; have GW102 := n3_; have GE102 := n4_; clear n0_ n1_ n2_ n3_ n4_; clear hb hbox hg; have hcz14_0 : w13.cell? ⟨gb102, 0, none⟩ = some (.string (⟨#[]⟩ : ByteArray)) := (blk_cell BK102.out 0).trans rfl; have hcz14_1 : w13.cell? ⟨gb102, 1, none⟩ = some (.int .i64 0) := (blk_cell BK102.out 1).trans rfl; have hcz14_2 : w13.cell? ⟨gb102, 2, none⟩ = some (.slice none 0 0) := (blk_cell BK102.out 2).trans rfl; have hfz14_0 := blk_frozen BK102.out 0; have hfz14_1 := blk_frozen BK102.out 1; have hfz14_2 := blk_frozen BK102.out 2) | ((with_reducible refine gate_callee (f := 53) rfl ?_); refine goesL_ (some 17) rfl rfl Tryz.func53 (by kernel_rfl) rfl #[.int .i64 ((rd_T41 l0 x9_1).f1), .slice A101_2 ((rd_T41 l0 x9_1).f2).length c101_2] rfl (by (try simp only [List.map_toArray, List.map_cons, List.map_nil]); first | done | rfl | (simp only [List.length_drop, List.length_take]; rfl)) ?_; (with_reducible refine (text_Key.calls k1 ((rd_T41 l0 x9_1).f1) _ _ ((rd_T41 l0 x9_1).f2) t103 _ ?side1 ?side2 ?side3 A5.out).mono ?_); (case side1 => exact Kd.C_below HR101_2.out (by repeat (first | (with_reducible first | exact HB.out | apply below_alloc | apply pw_below_drewN | apply below_drew1 | refine below_set ?_ GE102.out) | exact HB.out))); (case side2 => exact HC101_2.out); (case side3 => exact Go.Proofs.YtpdhbpdfldfnhaaGreatDoor.Tabs.below hT_ (by repeat (first | (with_reducible first | exact HB.out | apply below_alloc | apply pw_below_drewN | apply below_drew1 | refine below_set ?_ GE102.out) | exact HB.out))); rintro e w15 ⟨rfl, hb⟩; refine ⟨_, rfl, ?_⟩; have n0_ := Aside0.mk (Kd.R_below (by (with_reducible repeat (first | apply Kd.R_alloc | apply Kd.R_drewN | apply Kd.R_drew)); exact (Kd.R_mono (Kd.R_far (p := ⟨gb102, 2, none⟩) (Kd.R_far (p := ⟨gb102, 1, none⟩) (Kd.R_far (p := ⟨gb102, 0, none⟩) (Kd.R_types HO_3.out BK102.out (by decide)) (fun _ hk => hk.2) (.string ((rd_T41 l0 x9_1).f0))) (fun _ hk => hk.2) (.int .i64 ((rd_T41 l0 x9_1).f1))) (fun _ hk => hk.2) (.slice A101_2 ((rd_T41 l0 x9_1).f2).length c101_2)) (fun _ h_ => h_.1))) hb); have n1_ := Aside0.mk (blk_below (g := gb102) (o := .cells #[.string ((rd_T41 l0 x9_1).f0), .int .i64 ((rd_T41 l0 x9_1).f1), .slice A101_2 ((rd_T41 l0 x9_1).f2).length c101_2] 41 (0, 0)) (by (with_reducible repeat (first | refine blk_drewN ?_ _ | refine blk_drew ?_ | refine blk_alloc ?_ _)); refine blk_put (cs := #[.string ((rd_T41 l0 x9_1).f0), .int .i64 ((rd_T41 l0 x9_1).f1), .slice none 0 0]) ?_ 2 _ rfl; (with_reducible repeat (first | refine blk_drewN ?_ _ | refine blk_drew ?_ | refine blk_alloc ?_ _)); refine blk_put (cs := #[.string ((rd_T41 l0 x9_1).f0), .int .i64 0, .slice none 0 0]) ?_ 1 _ rfl; (with_reducible repeat (first | refine blk_drewN ?_ _ | refine blk_drew ?_ | refine blk_alloc ?_ _)); refine blk_put (cs := #[.string (⟨#[]⟩ : ByteArray), .int .i64 0, .slice none 0 0]) ?_ 0 _ rfl; (with_reducible repeat (first | refine blk_drewN ?_ _ | refine blk_drew ?_ | refine blk_alloc ?_ _)); exact BK102.out) hb); have n2_ := Aside0.mk (below_step (by repeat (first | (with_reducible first | exact HB.out | apply below_alloc | apply pw_below_drewN | apply below_drew1 | refine below_set ?_ GE102.out) | exact HB.out)) hb); clear HO_3; clear BK102; clear HB; have HO_3 := n0_; have BK102 := n1_; have HB := n2_; clear n0_ n1_ n2_; (try clear hb); (try clear hb2); (try clear hk); (try clear hi)))
                        have n0_ := Aside0.mk (Kd.R_drew HO_3.out)
                        have n1_ := Aside0.mk (blk_drew BK102.out)
                        have n2_ := Aside0.mk (below_drew1 HB.out)
                        clear HO_3
                        clear BK102
                        clear HB
                        have HO_3 := n0_
                        have BK102 := n1_
                        have HB := n2_
                        clear n0_ n1_ n2_
                        refine start_ (n := 15) (S := fun w' => w'.cell? ⟨gb102, 0, none⟩ = some (.string ((rd_T41 l0 x9_1).f0)) ∧ w'.cell? ⟨gb102, 1, none⟩ = some (.int .i64 ((rd_T41 l0 x9_1).f1)) ∧ w'.cell? ⟨gb102, 2, none⟩ = some (.slice A101_2 ((rd_T41 l0 x9_1).f2).length c101_2)) (ds := []) #[false, false, false, false, false, false, false, false, false, false, false, false, false, false, false] (by kernel_rfl) rfl rfl ⟨(blk_cell BK102.out 0).trans rfl, (blk_cell BK102.out 1).trans rfl, (blk_cell BK102.out 2).trans rfl⟩ (fun hHeld => ?_); refine with_tabW name_mark.tab6 name_mark.bits6 (fun HT_ HW_ => ?_)
                        generalize w15.drew = w16 at HO_3 BK102 HB hHeld ⊢
                        refine pure_ (i := 0) (N := some 18) (v := ?_) (a' := ?_) #[true, false, false, false, false, false, false, false, false, false, false, false, false, false, false] rfl rfl (any_of HT_.out (by kernel_rfl)) (fun _ _ _ h => h) (Or.inl ⟨by rfl, ?_⟩) ?_ ?_
                        rotate_left
                        · intro w'
                          go_simp
                          with_reducible rfl
                        rotate_left
                        · simp only [Act.put, List.setIfInBounds_toArray, List.set_cons_zero, List.set_cons_succ, i64_w, i32_w]
                          rfl
                        refine pure_ (i := 1) (N := some 19) (v := ?_) (a' := ?_) #[true, true, false, false, false, false, false, false, false, false, false, false, false, false, false] rfl rfl (any_of HT_.out (by kernel_rfl)) (fun _ _ _ h => h) (Or.inl ⟨by rfl, ?_⟩) ?_ ?_
                        rotate_left
                        · intro w'
                          go_simp
                          with_reducible rfl
                        rotate_left
                        · simp only [Act.put, List.setIfInBounds_toArray, List.set_cons_zero, List.set_cons_succ, i64_w, i32_w]
                          rfl
                        refine pure_ (i := 4) (N := some 22) (v := ?_) (a' := ?_) #[true, true, false, false, true, false, false, false, false, false, false, false, false, false, false] rfl rfl (any_of HT_.out (by kernel_rfl)) (fun _ _ _ h => h) (Or.inl ⟨by rfl, ?_⟩) ?_ ?_
                        rotate_left
                        · intro w'
                          go_simp
                          with_reducible rfl
                        rotate_left
                        · simp only [Act.put, List.setIfInBounds_toArray, List.set_cons_zero, List.set_cons_succ, i64_w, i32_w]
                          rfl
                        refine pure_ (i := 5) (N := some 23) (v := ?_) (a' := ?_) #[true, true, false, false, true, true, false, false, false, false, false, false, false, false, false] rfl rfl (any_of HT_.out (by kernel_rfl)) (fun _ _ _ h => h) (Or.inl ⟨by rfl, ?_⟩) ?_ ?_
                        rotate_left
                        · intro w'
                          go_simp
                          with_reducible rfl
                        rotate_left
                        · simp only [Act.put, List.setIfInBounds_toArray, List.set_cons_zero, List.set_cons_succ, i64_w, i32_w]
                          rfl
                        refine pure_ (i := 9) (N := some 27) (v := ?_) (a' := ?_) #[true, true, false, false, true, true, false, false, false, true, false, false, false, false, false] rfl rfl (any_of HT_.out (by kernel_rfl)) (fun _ _ _ h => h) (Or.inl ⟨by rfl, ?_⟩) ?_ ?_
                        rotate_left
                        · intro w'
                          go_simp
                          with_reducible rfl
                        rotate_left
                        · simp only [Act.put, List.setIfInBounds_toArray, List.set_cons_zero, List.set_cons_succ, i64_w, i32_w]
                          rfl
                        refine take_ (i := 2) (N := some 20) (v := ?_) (a' := ?_) #[true, true, true, false, true, true, false, false, false, true, false, false, false, false, false] rfl rfl (take_ofW HT_.out HW_.out (by kernel_rfl)) (fun _ _ _ h => h) (Or.inl ⟨by rfl, ?_⟩) hHeld ?_ ?_
                        rotate_left
                        · rintro w' ⟨s0, s1, s2⟩
                          go_simp
                          with_reducible rfl
                        rotate_left
                        · simp only [Act.put, List.setIfInBounds_toArray, List.set_cons_zero, List.set_cons_succ, i64_w, i32_w]
                          rfl
                        refine pure_ (i := 3) (N := some 21) (v := ?_) (a' := ?_) #[true, true, true, true, true, true, false, false, false, true, false, false, false, false, false] rfl rfl (any_of HT_.out (by kernel_rfl)) (fun _ _ _ h => h) (Or.inl ⟨by rfl, ?_⟩) ?_ ?_
                        rotate_left
                        · intro w'
                          go_simp
                          with_reducible rfl
                        rotate_left
                        · simp only [Act.put, List.setIfInBounds_toArray, List.set_cons_zero, List.set_cons_succ, i64_w, i32_w]
                          rfl
                        refine one_ (i := 6) (N := some 24) #[true, true, true, true, true, true, true, false, false, true, false, false, false, false, false] rfl rfl (one_of HT_.out (by kernel_rfl)) (by decide) (fun K hK => ?_)
                        refine goes_ Tryz.func54 (by kernel_rfl) rfl #[.int .i64 (t103.size : Int)] (by rfl) rfl rfl (by (try simp only [List.map_toArray, List.map_cons, List.map_nil]); first | done | rfl | (simp only [List.length_drop, List.length_take]; rfl)) ?_
                        with_reducible refine (strconv_Itoa.calls (t103.size : Int) t104 _ ?side1 A7.out).mono ?_
                        (case side1 => exact Go.Proofs.YtpdhbpdfldfnhaaGreatDoor.Tabs.below hT_ (by repeat (first | (with_reducible first | exact HB.out | apply below_alloc | apply pw_below_drewN | apply below_drew1 | refine below_set ?_ GE102.out) | exact HB.out)))
                        rintro e w17 ⟨rfl, hb⟩
                        refine ⟨_, rfl, ?_⟩
                        have n0_ := Aside0.mk (Kd.R_below (by (with_reducible repeat (first | apply Kd.R_alloc | apply Kd.R_drewN | apply Kd.R_drew)); exact HO_3.out) hb)
                        have n1_ := Aside0.mk (blk_below (g := gb102) (o := .cells #[.string ((rd_T41 l0 x9_1).f0), .int .i64 ((rd_T41 l0 x9_1).f1), .slice A101_2 ((rd_T41 l0 x9_1).f2).length c101_2] 41 (0, 0)) (by (with_reducible repeat (first | refine blk_drewN ?_ _ | refine blk_drew ?_ | refine blk_alloc ?_ _)); exact BK102.out) hb)
                        have n2_ := Aside0.mk (below_step (by repeat (first | (with_reducible first | exact HB.out | apply below_alloc | apply pw_below_drewN | apply below_drew1 | refine below_set ?_ GE102.out) | exact HB.out)) hb)
                        clear HO_3
                        clear BK102
                        clear HB
                        have HO_3 := n0_
                        have BK102 := n1_
                        have HB := n2_
                        clear n0_ n1_ n2_
                        (try clear hb)
                        (try clear hb2)
                        (try clear hk)
                        (try clear hi)
                        refine hK.out _ _ ⟨(blk_cell BK102.out 0).trans rfl, (blk_cell BK102.out 1).trans rfl, (blk_cell BK102.out 2).trans rfl⟩ (fun hHeld => ?_)
                        clear hK K
                        refine norm_ (a' := ?_) ?_ ?_
                        rotate_left
                        · show Act.put _ (some 24) _ = _
                          simp only [Act.put, List.setIfInBounds_toArray, List.set_cons_zero, List.set_cons_succ, i64_w, i32_w]
                          rfl
                        refine pure_ (i := 7) (N := some 25) (v := ?_) (a' := ?_) #[true, true, true, true, true, true, true, true, false, true, false, false, false, false, false] rfl rfl (any_of HT_.out (by kernel_rfl)) (fun _ _ _ h => h) (Or.inl ⟨by rfl, ?_⟩) ?_ ?_
                        rotate_left
                        · intro w'
                          go_simp
                          with_reducible rfl
                        rotate_left
                        · simp only [Act.put, List.setIfInBounds_toArray, List.set_cons_zero, List.set_cons_succ, i64_w, i32_w]
                          rfl
                        refine pure_ (i := 8) (N := some 26) (v := ?_) (a' := ?_) #[true, true, true, true, true, true, true, true, true, true, false, false, false, false, false] rfl rfl (any_of HT_.out (by kernel_rfl)) (fun _ _ _ h => h) (Or.inl ⟨by rfl, ?_⟩) ?_ ?_
                        rotate_left
                        · intro w'
                          go_simp
                          with_reducible rfl
                        rotate_left
                        · simp only [Act.put, List.setIfInBounds_toArray, List.set_cons_zero, List.set_cons_succ, i64_w, i32_w]
                          rfl
                        refine pure_ (i := 10) (N := some 28) (v := ?_) (a' := ?_) #[true, true, true, true, true, true, true, true, true, true, true, false, false, false, false] rfl rfl (any_of HT_.out (by kernel_rfl)) (fun _ _ _ h => h) (Or.inl ⟨by rfl, ?_⟩) ?_ ?_
                        rotate_left
                        · intro w'
                          go_simp
                          with_reducible rfl
                        rotate_left
                        · simp only [Act.put, List.setIfInBounds_toArray, List.set_cons_zero, List.set_cons_succ, i64_w, i32_w]
                          rfl
                        refine pure_ (i := 11) (N := some 29) (v := ?_) (a' := ?_) #[true, true, true, true, true, true, true, true, true, true, true, true, false, false, false] rfl rfl (any_of HT_.out (by kernel_rfl)) (fun _ _ _ h => h) (Or.inl ⟨by rfl, ?_⟩) ?_ ?_
                        rotate_left
                        · intro w'
                          go_simp
                          with_reducible rfl
                        rotate_left
                        · simp only [Act.put, List.setIfInBounds_toArray, List.set_cons_zero, List.set_cons_succ, i64_w, i32_w]
                          rfl
                        refine one_ (i := 12) (N := some 30) #[true, true, true, true, true, true, true, true, true, true, true, true, true, false, false] rfl rfl (one_of HT_.out (by kernel_rfl)) (by decide) (fun K hK => ?_)
                        refine value_ (w1 := ?_) (v := ?_) (by rfl) rfl ?_ ?_
                        rotate_left 2
                        · go_simp
                          constructor
                          · rfl
                          · rfl
                        refine hK.out _ _ ⟨(blk_cell (blk_alloc BK102.out _) 0).trans rfl, (blk_cell (blk_alloc BK102.out _) 1).trans rfl, (blk_cell (blk_alloc BK102.out _) 2).trans rfl⟩ (fun hHeld => ?_)
                        clear hK K
                        refine norm_ (a' := ?_) ?_ ?_
                        rotate_left
                        · show Act.put _ (some 30) _ = _
                          simp only [Act.put, List.setIfInBounds_toArray, List.set_cons_zero, List.set_cons_succ, i64_w, i32_w]
                          rfl
                        refine one_ (i := 13) (N := some 31) #[true, true, true, true, true, true, true, true, true, true, true, true, true, true, false] rfl rfl (one_of HT_.out (by kernel_rfl)) (by decide) (fun K hK => ?_)
                        refine Kd.R_append_step Kd.string (w0 := w) w.heap.size (by rfl) (.tmp 18) (.tmp 30) 66 9 (.string ⟨#[]⟩) 16 rfl Tryz.underlying66 info9 rfl (by decide) (by omega) u3 x3_1 (((((((rd_T41 l0 x9_1).f0) ++ (⟨#[61]⟩ : ByteArray)) ++ t104) ++ (⟨#[58]⟩ : ByteArray)) ++ t103) ++ (⟨#[59]⟩ : ByteArray)) [.string (((((((rd_T41 l0 x9_1).f0) ++ (⟨#[61]⟩ : ByteArray)) ++ t104) ++ (⟨#[58]⟩ : ByteArray)) ++ t103) ++ (⟨#[59]⟩ : ByteArray))] (fun _ => True) (fun _ => False) rfl rfl ?aP (fun _ hk => hk.elim) ?aF ?aO ?aB ?aS ?aL ?_
                        (case aP => exact rfl)
                        (case aB => exact (by repeat (first | (with_reducible first | exact HB.out | apply below_alloc | apply pw_below_drewN | apply below_drew1 | refine below_set ?_ GE102.out) | exact HB.out)))
                        (case aF => exact (fun _ _ => trivial))
                        (case aO => exact (by (with_reducible repeat (first | apply Kd.R_alloc | apply Kd.R_drewN | apply Kd.R_drew)); exact HO_3.out))
                        (case aS => exact (below_size (by repeat (first | (with_reducible first | exact HB.out | apply below_alloc | apply pw_below_drewN | apply below_drew1 | refine below_set ?_ GE102.out) | exact HB.out))))
                        (case aL => have := LMc12.out; omega)
                        intro v106 w18 ho hb hg hat
                        rw [← Ny105.out] at ho
                        have n0_ := Aside0.mk (blk_grown (g := gb102) (o := .cells #[.string ((rd_T41 l0 x9_1).f0), .int .i64 ((rd_T41 l0 x9_1).f1), .slice A101_2 ((rd_T41 l0 x9_1).f2).length c101_2] 41 (0, 0)) (by (with_reducible repeat (first | refine blk_drewN ?_ _ | refine blk_drew ?_ | refine blk_alloc ?_ _)); exact BK102.out) hg (Kd.R_ne HO_3.out BK102.out (by decide)))
                        have n1_ := Aside0.mk (hb)
                        have n2_ := Aside0.mk (ho)
                        clear BK102
                        clear HB
                        clear HO_3
                        have BK102 := n0_
                        have HB := n1_
                        have HO107 := n2_
                        clear n0_ n1_ n2_
                        clear ho hb hg hat
                        refine hK.out _ _ ⟨(blk_cell BK102.out 0).trans rfl, (blk_cell BK102.out 1).trans rfl, (blk_cell BK102.out 2).trans rfl⟩ (fun hHeld => ?_)
                        clear hK K
                        refine norm_ (a' := ?_) ?_ ?_
                        rotate_left
                        · show Act.put _ (some 31) _ = _
                          simp only [Act.put, List.setIfInBounds_toArray, List.set_cons_zero, List.set_cons_succ, i64_w, i32_w]
                          rfl
                        refine pure_ (i := 14) (N := some 3) (v := ?_) (a' := ?_) #[true, true, true, true, true, true, true, true, true, true, true, true, true, true, true] rfl rfl (any_of HT_.out (by kernel_rfl)) (fun _ _ _ h => h) (Or.inl ⟨by rfl, ?_⟩) ?_ ?_
                        rotate_left
                        · intro w'
                          go_simp
                          with_reducible rfl
                        rotate_left
                        · simp only [Act.put, List.setIfInBounds_toArray, List.set_cons_zero, List.set_cons_succ, i64_w, i32_w]
                          rfl
                        refine done_ (done_of HT_.out (by kernel_rfl)) ?_
                        try go_wp2
                        go_roundg k1
                        case measure => have := HK1.out; omega
                        case rel => exact ⟨(y105), (wrap64 (x9_1 + 1)), (by first | rfl | (simp; done) | (simp [*]; done)), H', ⟨by have := HK1.out; omega⟩, ⟨by (with_reducible repeat (first | apply Kd.R_alloc | apply Kd.R_drewN | apply Kd.R_drew)); exact HO107.out⟩, ⟨by repeat (first | (with_reducible first | exact HB.out | apply below_alloc | apply pw_below_drewN | apply below_drew1 | refine below_set ?_ GE102.out) | exact HB.out)⟩⟩
                      · rw [if_neg c12] at H
                        exact absurd H (by simp)
                    · rw [if_neg c11] at H
                      exact absurd H (by simp)
                  · rw [if_neg c10] at H
                    exact absurd H (by simp)
                · rw [if_neg c9] at H
                  exact absurd H (by simp)
              · rw [if_neg c8] at H
                exact absurd H (by simp)
            · rw [if_neg c6] at H
              exact absurd H (by simp)
          · rw [if_neg c4] at H
            exact absurd H (by simp)
        · rw [if_neg c3] at H
          exact absurd H (by simp)
      · rw [if_neg c2] at H
        have c2b0 : decide (x9_1 < (l0.length : Int)) = false := decide_eq_false c2
        clear c2
        replace H := Option.bind_eq_some_iff.mp H
        obtain ⟨_, A190, H⟩ := H
        replace H : ((strings_Join.f x3_1 (⟨#[]⟩ : ByteArray)).bind fun t108 => (if t108.size + 1 ≤ 9223372036854775807 then (some (t108 ++ (⟨#[47]⟩ : ByteArray))) else (none))) = some r := H
        have A19 := Aside0.mk A190
        clear A190
        replace H := Option.bind_eq_some_iff.mp H
        obtain ⟨t108, A200, H⟩ := H
        replace H : (if t108.size + 1 ≤ 9223372036854775807 then (some (t108 ++ (⟨#[47]⟩ : ByteArray))) else (none)) = some r := H
        have A20 := Aside0.mk A200
        clear A200
        by_cases c21 : t108.size + 1 ≤ 9223372036854775807
        · rw [if_pos c21] at H
          have c21b0 := eq_true c21
          have c21b1 : decide (t108.size + 1 ≤ 9223372036854775807) = true := decide_eq_true c21
          try have c21b2 : (9223372036854775807 < t108.size + 1) = False := eq_false (Nat.not_lt.2 c21)
          obtain rfl := Option.some.inj H
          obtain ⟨Ao22, co22, eo22⟩ := Kd.R_slice HO_3.out
          subst eo22
          have OKJ := Aside0.mk (show Go.Proofs.YtpdhbpdfldfnhaaGreatDoor.Rk.OkJ x3_1 by have := A19.out; unfold slices_Sort_string_string.f at this; split at this; assumption; cases this)
          have EJ := Aside0.mk (show Go.Proofs.YtpdhbpdfldfnhaaGreatDoor.Rk.jn x3_1 = t108 from Option.some.inj A20.out)
          go_wp2_with (first
            | (go_at_call 55; (with_reducible refine (Go.Proofs.YtpdhbpdfldfnhaaGreatDoor.Rk.sort_then HO_3.out HB.out OKJ.out).mono ?_); rintro e w23 ⟨rfl, HS⟩; rw [EJ.out] at HS)
            | (go_at_call 56; (with_reducible refine HS.out.2.mono ?_); rintro e w24 ⟨rfl, hb⟩; have HB2 := Aside0.mk (below_step HS.out.1 hb); clear HB HS hb; have HB := HB2; clear HB2))
          go_ret
          exact ⟨by first | rfl | (simp [errW_none, errW_some] <;> rfl) | (simp [*, errW_none, errW_some] <;> rfl), by repeat (first | (with_reducible first | exact HB.out | apply below_alloc | apply pw_below_drewN | apply below_drew1) | exact HB.out)⟩
        · rw [if_neg c21] at H
          exact absurd H (by simp)

/-! ### chirographref07_Huge: function 8 -/
mutual
def chirographref07_Huge.l0 : Nat → List (List (S41)) → Int → Int → Int → Option (Bool)
  | 0, _, _, _, _ => none
  | k + 1, x0, x1, x5, x6 => if x6 < (x0.length : Int) then (if 0 ≤ x6 then (if ((rd_L5 x0 x6).length : Int) > 200 then (some true) else (chirographref07_Huge.l1 k x0 x1 x5 x6 0)) else (none)) else (some false)
def chirographref07_Huge.l1 : Nat → List (List (S41)) → Int → Int → Int → Int → Option (Bool)
  | 0, _, _, _, _, _ => none
  | k + 1, x0, x1, x5, x6, x7 => if 0 ≤ x6 then (if x6 < (x0.length : Int) then (if x7 < ((rd_L5 x0 x6).length : Int) then (if 0 ≤ x7 then (if (((rd_T41 (rd_L5 x0 x6) x7).f2).length : Int) > (wrap64 (x1 - x5)) then (some true) else (if (((rd_T41 (rd_L5 x0 x6) x7).f0).size : Int) > (wrap64 (x1 - (wrap64 (x5 + (((rd_T41 (rd_L5 x0 x6) x7).f2).length : Int))))) then (some true) else (chirographref07_Huge.l1 k x0 x1 (wrap64 ((wrap64 (x5 + (((rd_T41 (rd_L5 x0 x6) x7).f2).length : Int))) + (((rd_T41 (rd_L5 x0 x6) x7).f0).size : Int))) x6 (wrap64 (x7 + 1))))) else (none)) else (chirographref07_Huge.l0 k x0 x1 x5 (wrap64 (x6 + 1)))) else (none)) else (none)
end
def chirographref07_Huge.f (k : Nat) (l0 : List (List (S41))) (a1 : Int) : Option (Bool) := if (l0.length : Int) > 200 then (some true) else (chirographref07_Huge.l0 k l0 a1 0 0)
theorem chirographref07_Huge.mono_l : ∀ k, (∀ y0 y1 y2 y3, LeO (chirographref07_Huge.l0 k y0 y1 y2 y3) (chirographref07_Huge.l0 (k + 1) y0 y1 y2 y3)) ∧ (∀ y0 y1 y2 y3 y4, LeO (chirographref07_Huge.l1 k y0 y1 y2 y3 y4) (chirographref07_Huge.l1 (k + 1) y0 y1 y2 y3 y4))
  | 0 => ⟨fun _ _ _ _ r h => by simp [chirographref07_Huge.l0] at h, fun _ _ _ _ _ r h => by simp [chirographref07_Huge.l1] at h⟩
  | k + 1 => by
    obtain ⟨ih0, ih1⟩ := chirographref07_Huge.mono_l k
    refine ⟨?_, ?_⟩
    · intro y0 y1 y2 y3
      unfold chirographref07_Huge.l0
      repeat' first
      | (with_reducible exact ih0 _ _ _ _)
      | (with_reducible exact ih1 _ _ _ _ _)
      | (with_reducible exact LeO.refl _)
      | (with_reducible exact LeO.none _)
      | (with_reducible refine LeO.ite ?_ ?_)
      | (with_reducible refine LeO.bind ?_ (fun _ => ?_))
      | exact ih0 _ _ _ _
      | exact ih1 _ _ _ _ _
      | exact LeO.none _
      | refine LeO.ite ?_ ?_
      | refine LeO.bind ?_ (fun _ => ?_)
    · intro y0 y1 y2 y3 y4
      unfold chirographref07_Huge.l1
      repeat' first
      | (with_reducible exact ih0 _ _ _ _)
      | (with_reducible exact ih1 _ _ _ _ _)
      | (with_reducible exact LeO.refl _)
      | (with_reducible exact LeO.none _)
      | (with_reducible refine LeO.ite ?_ ?_)
      | (with_reducible refine LeO.bind ?_ (fun _ => ?_))
      | exact ih0 _ _ _ _
      | exact ih1 _ _ _ _ _
      | exact LeO.none _
      | refine LeO.ite ?_ ?_
      | refine LeO.bind ?_ (fun _ => ?_)
theorem chirographref07_Huge.mono : ∀ a0 a1 k, LeO (chirographref07_Huge.f k a0 a1) (chirographref07_Huge.f (k + 1) a0 a1) := by
  intro a0 a1 k
  obtain ⟨ih0, ih1⟩ := chirographref07_Huge.mono_l k
  unfold chirographref07_Huge.f
  repeat' first
      | (with_reducible exact ih0 _ _ _ _)
      | (with_reducible exact ih1 _ _ _ _ _)
      | (with_reducible exact LeO.refl _)
      | (with_reducible exact LeO.none _)
      | (with_reducible refine LeO.ite ?_ ?_)
      | (with_reducible refine LeO.bind ?_ (fun _ => ?_))
      | exact ih0 _ _ _ _
      | exact ih1 _ _ _ _ _
      | exact LeO.none _
      | refine LeO.ite ?_ ?_
      | refine LeO.bind ?_ (fun _ => ?_)
set_option maxHeartbeats 8000000 in
set_option maxRecDepth 100000 in
theorem chirographref07_Huge.calls (k : Nat) (A0 : Option Addr) (c0 : Nat) (l0 : List (List (S41))) (a1 : Int) (r : Bool) (w : World) (hr0 : Kd.C (Kd.slice 41 k41) w A0 l0.length l0) (hc0 : l0.length ≤ c0) (h : chirographref07_Huge.f k l0 a1 = some r) :
    Calls Tryz.prog 8 #[.slice A0 l0.length c0, .int .i64 a1] w fun e w' => e = .returned (.bool r) ∧ Drawn0 w w' := by
  have HR0 := Aside0.mk hr0
  have HC0 := Aside0.mk hc0
  clear hr0 hc0
  have H : (if (l0.length : Int) > 200 then (some true) else (chirographref07_Huge.l0 k l0 a1 0 0)) = some r := h
  clear h
  by_cases c3 : (l0.length : Int) > 200
  · rw [if_pos c3] at H
    have c3b0 : decide (200 < (l0.length : Int)) = true := decide_eq_true c3
    have c3b1 : decide (200 < l0.length) = true := decide_eq_true (by omega)
    clear c3
    obtain rfl := Option.some.inj H
    go_enter Tryz.func8, Tryz.ntmps8
    go_wp2
    go_ret
    exact ⟨by first | rfl | (simp; done) | (simp [*]; done), by repeat (first | exact Drawn0.refl _ | apply Drawn0.step)⟩
  · rw [if_neg c3] at H
    have c3b0 : decide (200 < (l0.length : Int)) = false := decide_eq_false c3
    have c3b1 : decide (200 < l0.length) = false := decide_eq_false (by omega)
    clear c3
    have H' := Aside0.mk H
    clear H
    go_enter Tryz.func8, Tryz.ntmps8
    go_wp2
    go_loopg [5, 6] k (fun kq v5 v6 w' => ∃ (x5_1 : Int) (x6_1 : Int), v5 = .int .i64 x5_1 ∧ v6 = .int .i64 x6_1 ∧ Aside0 (chirographref07_Huge.l0 kq l0 a1 x5_1 x6_1 = some r) ∧ Aside0 (kq ≤ k) ∧ Drawn0 w w')
    case atStart => exact ⟨(0), (0), (by first | rfl | (simp; done) | (simp [*]; done)), (by first | rfl | (simp; done) | (simp [*]; done)), H', ⟨Nat.le_refl _⟩, by repeat (first | exact Drawn0.refl _ | apply Drawn0.step)⟩
    case round =>
      clear H'
      try clear p2
      try clear c3
      try clear c3b0
      try clear c3b1
      obtain ⟨x5_1, x6_1, rfl, rfl, HA, HK1, ⟨m1, rfl⟩⟩ := hrel
      cases gk with
      | zero => exact absurd HA.out (by simp [chirographref07_Huge.l0])
      | succ k1 =>
        have H := HA.out
        clear HA
        simp only [chirographref07_Huge.l0] at H
        by_cases c4 : x6_1 < (l0.length : Int)
        · rw [if_pos c4] at H
          have c4b0 : decide (x6_1 < (l0.length : Int)) = true := decide_eq_true c4
          clear c4
          by_cases c5 : 0 ≤ x6_1
          · rw [if_pos c5] at H
            have c5b0 : decide (0 ≤ x6_1) = true := decide_eq_true c5
            clear c5
            by_cases c6 : ((rd_L5 l0 x6_1).length : Int) > 200
            · rw [if_pos c6] at H
              have c6b0 : decide (200 < ((rd_L5 l0 x6_1).length : Int)) = true := decide_eq_true c6
              have c6b1 : decide (200 < (rd_L5 l0 x6_1).length) = true := decide_eq_true (by omega)
              clear c6
              obtain rfl := Option.some.inj H
              have p109 : 0 ≤ (x6_1 : Int) := of_decide_eq_true (by first | (with_reducible assumption) | assumption)
              have q109 : x6_1 < (l0.length : Int) := of_decide_eq_true (by first | (with_reducible assumption) | assumption)
              obtain ⟨ad109, A109_0, c109_0, e109, hx109_0, hl109_0, hi109_0⟩ := at_L5 HR0.out x6_1 p109 q109
              cases e109
              have HR109_0 := Aside0.mk hi109_0
              have HC109_0 := Aside0.mk hl109_0
              clear hi109_0 hl109_0
              replace p109 := eq_true p109
              replace q109 := eq_true q109
              go_wp2
              go_ret
              exact ⟨by first | rfl | (simp; done) | (simp [*]; done), by repeat (first | exact Drawn0.refl _ | apply Drawn0.step)⟩
            · rw [if_neg c6] at H
              have c6b0 : decide (200 < ((rd_L5 l0 x6_1).length : Int)) = false := decide_eq_false c6
              have c6b1 : decide (200 < (rd_L5 l0 x6_1).length) = false := decide_eq_false (by omega)
              clear c6
              have H' := Aside0.mk H
              clear H
              have p109 : 0 ≤ (x6_1 : Int) := of_decide_eq_true (by first | (with_reducible assumption) | assumption)
              have q109 : x6_1 < (l0.length : Int) := of_decide_eq_true (by first | (with_reducible assumption) | assumption)
              obtain ⟨ad109, A109_0, c109_0, e109, hx109_0, hl109_0, hi109_0⟩ := at_L5 HR0.out x6_1 p109 q109
              cases e109
              have HR109_0 := Aside0.mk hi109_0
              have HC109_0 := Aside0.mk hl109_0
              clear hi109_0 hl109_0
              replace p109 := eq_true p109
              replace q109 := eq_true q109
              go_wp2
              go_loopg [5, 7] k1 (fun kq v5 v7 w' => ∃ (x5_2 : Int) (x7_2 : Int), v5 = .int .i64 x5_2 ∧ v7 = .int .i64 x7_2 ∧ Aside0 (chirographref07_Huge.l1 kq l0 a1 x5_2 x6_1 x7_2 = some r) ∧ Aside0 (kq ≤ k1) ∧ Drawn0 w w')
              case atStart => exact ⟨(x5_1), (0), (by first | rfl | (simp; done) | (simp [*]; done)), (by first | rfl | (simp; done) | (simp [*]; done)), H', ⟨Nat.le_refl _⟩, by repeat (first | exact Drawn0.refl _ | apply Drawn0.step)⟩
              case round =>
                clear H'
                try clear c1
                try clear p1
                try clear q1
                try clear hx1
                try clear p2
                try clear c3
                try clear c3b0
                try clear c3b1
                try clear c4
                try clear c4b0
                try clear c5
                try clear c5b0
                try clear c6
                try clear c6b0
                try clear c6b1
                try clear hx109_0
                try clear p109
                try clear p2
                try clear q109
                obtain ⟨x5_2, x7_2, rfl, rfl, HA, HK2, ⟨m2, rfl⟩⟩ := hrel
                cases gk with
                | zero => exact absurd HA.out (by simp [chirographref07_Huge.l1])
                | succ k2 =>
                  have H := HA.out
                  clear HA
                  simp only [chirographref07_Huge.l1] at H
                  by_cases c7 : 0 ≤ x6_1
                  · rw [if_pos c7] at H
                    have c7b0 : decide (0 ≤ x6_1) = true := decide_eq_true c7
                    clear c7
                    by_cases c8 : x6_1 < (l0.length : Int)
                    · rw [if_pos c8] at H
                      have c8b0 : decide (x6_1 < (l0.length : Int)) = true := decide_eq_true c8
                      clear c8
                      by_cases c9 : x7_2 < ((rd_L5 l0 x6_1).length : Int)
                      · rw [if_pos c9] at H
                        have c9b0 : decide (x7_2 < ((rd_L5 l0 x6_1).length : Int)) = true := decide_eq_true c9
                        clear c9
                        by_cases c10 : 0 ≤ x7_2
                        · rw [if_pos c10] at H
                          have c10b0 : decide (0 ≤ x7_2) = true := decide_eq_true c10
                          clear c10
                          by_cases c11 : (((rd_T41 (rd_L5 l0 x6_1) x7_2).f2).length : Int) > (wrap64 (a1 - x5_2))
                          · rw [if_pos c11] at H
                            have c11b0 : decide ((wrap64 (a1 - x5_2)) < (((rd_T41 (rd_L5 l0 x6_1) x7_2).f2).length : Int)) = true := decide_eq_true c11
                            clear c11
                            obtain rfl := Option.some.inj H
                            have p110 : 0 ≤ (x6_1 : Int) := of_decide_eq_true (by first | (with_reducible assumption) | assumption)
                            have q110 : x6_1 < (l0.length : Int) := of_decide_eq_true (by first | (with_reducible assumption) | assumption)
                            obtain ⟨ad110, A110_0, c110_0, e110, hx110_0, hl110_0, hi110_0⟩ := at_L5 HR0.out x6_1 p110 q110
                            obtain rfl : ad109 = ad110 := (by injection e110)
                            have HR110_0 := Aside0.mk hi110_0
                            have HC110_0 := Aside0.mk hl110_0
                            clear hi110_0 hl110_0
                            replace p110 := eq_true p110
                            replace q110 := eq_true q110
                            have p111 : 0 ≤ (x6_1 : Int) := of_decide_eq_true (by first | (with_reducible assumption) | assumption)
                            have q111 : x6_1 < (l0.length : Int) := of_decide_eq_true (by first | (with_reducible assumption) | assumption)
                            obtain ⟨ad111, A111_0, c111_0, e111, hx111_0, hl111_0, hi111_0⟩ := at_L5 HR0.out x6_1 p111 q111
                            obtain rfl : ad109 = ad111 := (by injection e111)
                            have HR111_0 := Aside0.mk hi111_0
                            have HC111_0 := Aside0.mk hl111_0
                            clear hi111_0 hl111_0
                            replace p111 := eq_true p111
                            replace q111 := eq_true q111
                            have ea_ := Option.some.inj (hx110_0.symm.trans hx111_0)
                            injection ea_ with ea_ en_ ec_
                            subst ea_
                            subst ec_
                            clear en_
                            have p112 : 0 ≤ (x7_2 : Int) := of_decide_eq_true (by first | (with_reducible assumption) | assumption)
                            have q112 : x7_2 < ((rd_L5 l0 x6_1).length : Int) := of_decide_eq_true (by first | (with_reducible assumption) | assumption)
                            obtain ⟨ad112, A112_2, c112_2, e112, hx112_0, hx112_1, hx112_2, hl112_2, hi112_2⟩ := at_T41 HR111_0.out x7_2 p112 q112
                            cases e112
                            have HR112_2 := Aside0.mk hi112_2
                            have HC112_2 := Aside0.mk hl112_2
                            clear hi112_2 hl112_2
                            replace p112 := eq_true p112
                            replace q112 := eq_true q112
                            go_wp2
                            go_ret
                            exact ⟨by first | rfl | (simp; done) | (simp [*]; done), by repeat (first | exact Drawn0.refl _ | apply Drawn0.step)⟩
                          · rw [if_neg c11] at H
                            have c11b0 : decide ((wrap64 (a1 - x5_2)) < (((rd_T41 (rd_L5 l0 x6_1) x7_2).f2).length : Int)) = false := decide_eq_false c11
                            clear c11
                            by_cases c12 : (((rd_T41 (rd_L5 l0 x6_1) x7_2).f0).size : Int) > (wrap64 (a1 - (wrap64 (x5_2 + (((rd_T41 (rd_L5 l0 x6_1) x7_2).f2).length : Int)))))
                            · rw [if_pos c12] at H
                              have c12b0 : decide ((wrap64 (a1 - (wrap64 (x5_2 + (((rd_T41 (rd_L5 l0 x6_1) x7_2).f2).length : Int))))) < (((rd_T41 (rd_L5 l0 x6_1) x7_2).f0).size : Int)) = true := decide_eq_true c12
                              clear c12
                              obtain rfl := Option.some.inj H
                              have p110 : 0 ≤ (x6_1 : Int) := of_decide_eq_true (by first | (with_reducible assumption) | assumption)
                              have q110 : x6_1 < (l0.length : Int) := of_decide_eq_true (by first | (with_reducible assumption) | assumption)
                              obtain ⟨ad110, A110_0, c110_0, e110, hx110_0, hl110_0, hi110_0⟩ := at_L5 HR0.out x6_1 p110 q110
                              obtain rfl : ad109 = ad110 := (by injection e110)
                              have HR110_0 := Aside0.mk hi110_0
                              have HC110_0 := Aside0.mk hl110_0
                              clear hi110_0 hl110_0
                              replace p110 := eq_true p110
                              replace q110 := eq_true q110
                              have p111 : 0 ≤ (x6_1 : Int) := of_decide_eq_true (by first | (with_reducible assumption) | assumption)
                              have q111 : x6_1 < (l0.length : Int) := of_decide_eq_true (by first | (with_reducible assumption) | assumption)
                              obtain ⟨ad111, A111_0, c111_0, e111, hx111_0, hl111_0, hi111_0⟩ := at_L5 HR0.out x6_1 p111 q111
                              obtain rfl : ad109 = ad111 := (by injection e111)
                              have HR111_0 := Aside0.mk hi111_0
                              have HC111_0 := Aside0.mk hl111_0
                              clear hi111_0 hl111_0
                              replace p111 := eq_true p111
                              replace q111 := eq_true q111
                              have ea_ := Option.some.inj (hx110_0.symm.trans hx111_0)
                              injection ea_ with ea_ en_ ec_
                              subst ea_
                              subst ec_
                              clear en_
                              have p112 : 0 ≤ (x7_2 : Int) := of_decide_eq_true (by first | (with_reducible assumption) | assumption)
                              have q112 : x7_2 < ((rd_L5 l0 x6_1).length : Int) := of_decide_eq_true (by first | (with_reducible assumption) | assumption)
                              obtain ⟨ad112, A112_2, c112_2, e112, hx112_0, hx112_1, hx112_2, hl112_2, hi112_2⟩ := at_T41 HR111_0.out x7_2 p112 q112
                              cases e112
                              have HR112_2 := Aside0.mk hi112_2
                              have HC112_2 := Aside0.mk hl112_2
                              clear hi112_2 hl112_2
                              replace p112 := eq_true p112
                              replace q112 := eq_true q112
                              have p113 : 0 ≤ (x6_1 : Int) := of_decide_eq_true (by first | (with_reducible assumption) | assumption)
                              have q113 : x6_1 < (l0.length : Int) := of_decide_eq_true (by first | (with_reducible assumption) | assumption)
                              obtain ⟨ad113, A113_0, c113_0, e113, hx113_0, hl113_0, hi113_0⟩ := at_L5 HR0.out x6_1 p113 q113
                              obtain rfl : ad109 = ad113 := (by injection e113)
                              have HR113_0 := Aside0.mk hi113_0
                              have HC113_0 := Aside0.mk hl113_0
                              clear hi113_0 hl113_0
                              replace p113 := eq_true p113
                              replace q113 := eq_true q113
                              have ea_ := Option.some.inj (hx110_0.symm.trans hx113_0)
                              injection ea_ with ea_ en_ ec_
                              subst ea_
                              subst ec_
                              clear en_
                              have p114 : 0 ≤ (x7_2 : Int) := of_decide_eq_true (by first | (with_reducible assumption) | assumption)
                              have q114 : x7_2 < ((rd_L5 l0 x6_1).length : Int) := of_decide_eq_true (by first | (with_reducible assumption) | assumption)
                              obtain ⟨ad114, A114_2, c114_2, e114, hx114_0, hx114_1, hx114_2, hl114_2, hi114_2⟩ := at_T41 HR113_0.out x7_2 p114 q114
                              cases e114
                              have HR114_2 := Aside0.mk hi114_2
                              have HC114_2 := Aside0.mk hl114_2
                              clear hi114_2 hl114_2
                              replace p114 := eq_true p114
                              replace q114 := eq_true q114
                              have p115 : 0 ≤ (x6_1 : Int) := of_decide_eq_true (by first | (with_reducible assumption) | assumption)
                              have q115 : x6_1 < (l0.length : Int) := of_decide_eq_true (by first | (with_reducible assumption) | assumption)
                              obtain ⟨ad115, A115_0, c115_0, e115, hx115_0, hl115_0, hi115_0⟩ := at_L5 HR0.out x6_1 p115 q115
                              obtain rfl : ad109 = ad115 := (by injection e115)
                              have HR115_0 := Aside0.mk hi115_0
                              have HC115_0 := Aside0.mk hl115_0
                              clear hi115_0 hl115_0
                              replace p115 := eq_true p115
                              replace q115 := eq_true q115
                              have ea_ := Option.some.inj (hx110_0.symm.trans hx115_0)
                              injection ea_ with ea_ en_ ec_
                              subst ea_
                              subst ec_
                              clear en_
                              have p116 : 0 ≤ (x7_2 : Int) := of_decide_eq_true (by first | (with_reducible assumption) | assumption)
                              have q116 : x7_2 < ((rd_L5 l0 x6_1).length : Int) := of_decide_eq_true (by first | (with_reducible assumption) | assumption)
                              obtain ⟨ad116, A116_2, c116_2, e116, hx116_0, hx116_1, hx116_2, hl116_2, hi116_2⟩ := at_T41 HR115_0.out x7_2 p116 q116
                              cases e116
                              have HR116_2 := Aside0.mk hi116_2
                              have HC116_2 := Aside0.mk hl116_2
                              clear hi116_2 hl116_2
                              replace p116 := eq_true p116
                              replace q116 := eq_true q116
                              go_wp2
                              go_ret
                              exact ⟨by first | rfl | (simp; done) | (simp [*]; done), by repeat (first | exact Drawn0.refl _ | apply Drawn0.step)⟩
                            · rw [if_neg c12] at H
                              have c12b0 : decide ((wrap64 (a1 - (wrap64 (x5_2 + (((rd_T41 (rd_L5 l0 x6_1) x7_2).f2).length : Int))))) < (((rd_T41 (rd_L5 l0 x6_1) x7_2).f0).size : Int)) = false := decide_eq_false c12
                              clear c12
                              have H' := Aside0.mk H
                              clear H
                              have p110 : 0 ≤ (x6_1 : Int) := of_decide_eq_true (by first | (with_reducible assumption) | assumption)
                              have q110 : x6_1 < (l0.length : Int) := of_decide_eq_true (by first | (with_reducible assumption) | assumption)
                              obtain ⟨ad110, A110_0, c110_0, e110, hx110_0, hl110_0, hi110_0⟩ := at_L5 HR0.out x6_1 p110 q110
                              obtain rfl : ad109 = ad110 := (by injection e110)
                              have HR110_0 := Aside0.mk hi110_0
                              have HC110_0 := Aside0.mk hl110_0
                              clear hi110_0 hl110_0
                              replace p110 := eq_true p110
                              replace q110 := eq_true q110
                              have p111 : 0 ≤ (x6_1 : Int) := of_decide_eq_true (by first | (with_reducible assumption) | assumption)
                              have q111 : x6_1 < (l0.length : Int) := of_decide_eq_true (by first | (with_reducible assumption) | assumption)
                              obtain ⟨ad111, A111_0, c111_0, e111, hx111_0, hl111_0, hi111_0⟩ := at_L5 HR0.out x6_1 p111 q111
                              obtain rfl : ad109 = ad111 := (by injection e111)
                              have HR111_0 := Aside0.mk hi111_0
                              have HC111_0 := Aside0.mk hl111_0
                              clear hi111_0 hl111_0
                              replace p111 := eq_true p111
                              replace q111 := eq_true q111
                              have ea_ := Option.some.inj (hx110_0.symm.trans hx111_0)
                              injection ea_ with ea_ en_ ec_
                              subst ea_
                              subst ec_
                              clear en_
                              have p112 : 0 ≤ (x7_2 : Int) := of_decide_eq_true (by first | (with_reducible assumption) | assumption)
                              have q112 : x7_2 < ((rd_L5 l0 x6_1).length : Int) := of_decide_eq_true (by first | (with_reducible assumption) | assumption)
                              obtain ⟨ad112, A112_2, c112_2, e112, hx112_0, hx112_1, hx112_2, hl112_2, hi112_2⟩ := at_T41 HR111_0.out x7_2 p112 q112
                              cases e112
                              have HR112_2 := Aside0.mk hi112_2
                              have HC112_2 := Aside0.mk hl112_2
                              clear hi112_2 hl112_2
                              replace p112 := eq_true p112
                              replace q112 := eq_true q112
                              have p113 : 0 ≤ (x6_1 : Int) := of_decide_eq_true (by first | (with_reducible assumption) | assumption)
                              have q113 : x6_1 < (l0.length : Int) := of_decide_eq_true (by first | (with_reducible assumption) | assumption)
                              obtain ⟨ad113, A113_0, c113_0, e113, hx113_0, hl113_0, hi113_0⟩ := at_L5 HR0.out x6_1 p113 q113
                              obtain rfl : ad109 = ad113 := (by injection e113)
                              have HR113_0 := Aside0.mk hi113_0
                              have HC113_0 := Aside0.mk hl113_0
                              clear hi113_0 hl113_0
                              replace p113 := eq_true p113
                              replace q113 := eq_true q113
                              have ea_ := Option.some.inj (hx110_0.symm.trans hx113_0)
                              injection ea_ with ea_ en_ ec_
                              subst ea_
                              subst ec_
                              clear en_
                              have p114 : 0 ≤ (x7_2 : Int) := of_decide_eq_true (by first | (with_reducible assumption) | assumption)
                              have q114 : x7_2 < ((rd_L5 l0 x6_1).length : Int) := of_decide_eq_true (by first | (with_reducible assumption) | assumption)
                              obtain ⟨ad114, A114_2, c114_2, e114, hx114_0, hx114_1, hx114_2, hl114_2, hi114_2⟩ := at_T41 HR113_0.out x7_2 p114 q114
                              cases e114
                              have HR114_2 := Aside0.mk hi114_2
                              have HC114_2 := Aside0.mk hl114_2
                              clear hi114_2 hl114_2
                              replace p114 := eq_true p114
                              replace q114 := eq_true q114
                              have p115 : 0 ≤ (x6_1 : Int) := of_decide_eq_true (by first | (with_reducible assumption) | assumption)
                              have q115 : x6_1 < (l0.length : Int) := of_decide_eq_true (by first | (with_reducible assumption) | assumption)
                              obtain ⟨ad115, A115_0, c115_0, e115, hx115_0, hl115_0, hi115_0⟩ := at_L5 HR0.out x6_1 p115 q115
                              obtain rfl : ad109 = ad115 := (by injection e115)
                              have HR115_0 := Aside0.mk hi115_0
                              have HC115_0 := Aside0.mk hl115_0
                              clear hi115_0 hl115_0
                              replace p115 := eq_true p115
                              replace q115 := eq_true q115
                              have ea_ := Option.some.inj (hx110_0.symm.trans hx115_0)
                              injection ea_ with ea_ en_ ec_
                              subst ea_
                              subst ec_
                              clear en_
                              have p116 : 0 ≤ (x7_2 : Int) := of_decide_eq_true (by first | (with_reducible assumption) | assumption)
                              have q116 : x7_2 < ((rd_L5 l0 x6_1).length : Int) := of_decide_eq_true (by first | (with_reducible assumption) | assumption)
                              obtain ⟨ad116, A116_2, c116_2, e116, hx116_0, hx116_1, hx116_2, hl116_2, hi116_2⟩ := at_T41 HR115_0.out x7_2 p116 q116
                              cases e116
                              have HR116_2 := Aside0.mk hi116_2
                              have HC116_2 := Aside0.mk hl116_2
                              clear hi116_2 hl116_2
                              replace p116 := eq_true p116
                              replace q116 := eq_true q116
                              have p117 : 0 ≤ (x6_1 : Int) := of_decide_eq_true (by first | (with_reducible assumption) | assumption)
                              have q117 : x6_1 < (l0.length : Int) := of_decide_eq_true (by first | (with_reducible assumption) | assumption)
                              obtain ⟨ad117, A117_0, c117_0, e117, hx117_0, hl117_0, hi117_0⟩ := at_L5 HR0.out x6_1 p117 q117
                              obtain rfl : ad109 = ad117 := (by injection e117)
                              have HR117_0 := Aside0.mk hi117_0
                              have HC117_0 := Aside0.mk hl117_0
                              clear hi117_0 hl117_0
                              replace p117 := eq_true p117
                              replace q117 := eq_true q117
                              have ea_ := Option.some.inj (hx110_0.symm.trans hx117_0)
                              injection ea_ with ea_ en_ ec_
                              subst ea_
                              subst ec_
                              clear en_
                              have p118 : 0 ≤ (x7_2 : Int) := of_decide_eq_true (by first | (with_reducible assumption) | assumption)
                              have q118 : x7_2 < ((rd_L5 l0 x6_1).length : Int) := of_decide_eq_true (by first | (with_reducible assumption) | assumption)
                              obtain ⟨ad118, A118_2, c118_2, e118, hx118_0, hx118_1, hx118_2, hl118_2, hi118_2⟩ := at_T41 HR117_0.out x7_2 p118 q118
                              cases e118
                              have HR118_2 := Aside0.mk hi118_2
                              have HC118_2 := Aside0.mk hl118_2
                              clear hi118_2 hl118_2
                              replace p118 := eq_true p118
                              replace q118 := eq_true q118
                              go_wp2
                              go_roundg k2
                              case measure => have := HK1.out; have := HK2.out; omega
                              case rel => exact ⟨(wrap64 ((wrap64 (x5_2 + (((rd_T41 (rd_L5 l0 x6_1) x7_2).f2).length : Int))) + (((rd_T41 (rd_L5 l0 x6_1) x7_2).f0).size : Int))), (wrap64 (x7_2 + 1)), (by first | rfl | (simp; done) | (simp [*]; done)), (by first | rfl | (simp; done) | (simp [*]; done)), H', ⟨by have := HK1.out; have := HK2.out; omega⟩, by repeat (first | exact Drawn0.refl _ | apply Drawn0.step)⟩
                        · rw [if_neg c10] at H
                          exact absurd H (by simp)
                      · rw [if_neg c9] at H
                        have c9b0 : decide (x7_2 < ((rd_L5 l0 x6_1).length : Int)) = false := decide_eq_false c9
                        clear c9
                        have H' := Aside0.mk H
                        clear H
                        have p110 : 0 ≤ (x6_1 : Int) := of_decide_eq_true (by first | (with_reducible assumption) | assumption)
                        have q110 : x6_1 < (l0.length : Int) := of_decide_eq_true (by first | (with_reducible assumption) | assumption)
                        obtain ⟨ad110, A110_0, c110_0, e110, hx110_0, hl110_0, hi110_0⟩ := at_L5 HR0.out x6_1 p110 q110
                        obtain rfl : ad109 = ad110 := (by injection e110)
                        have HR110_0 := Aside0.mk hi110_0
                        have HC110_0 := Aside0.mk hl110_0
                        clear hi110_0 hl110_0
                        replace p110 := eq_true p110
                        replace q110 := eq_true q110
                        go_wp2
                        go_roundg k2
                        case measure => have := HK1.out; have := HK2.out; omega
                        case rel => exact ⟨(x5_2), (wrap64 (x6_1 + 1)), (by first | rfl | (simp; done) | (simp [*]; done)), (by first | rfl | (simp; done) | (simp [*]; done)), H', ⟨by have := HK1.out; have := HK2.out; omega⟩, by repeat (first | exact Drawn0.refl _ | apply Drawn0.step)⟩
                    · rw [if_neg c8] at H
                      exact absurd H (by simp)
                  · rw [if_neg c7] at H
                    exact absurd H (by simp)
          · rw [if_neg c5] at H
            exact absurd H (by simp)
        · rw [if_neg c4] at H
          have c4b0 : decide (x6_1 < (l0.length : Int)) = false := decide_eq_false c4
          clear c4
          obtain rfl := Option.some.inj H
          go_wp2
          go_ret
          exact ⟨by first | rfl | (simp; done) | (simp [*]; done), by repeat (first | exact Drawn0.refl _ | apply Drawn0.step)⟩

end Go.Proofs.YtpdhbpdfldfnhaaGreatDoor.Nm
/- of Nmx2 -/
-- Printed by the session's hookprint.py (the kit's print, some functions given by hand).
namespace Go.Proofs.YtpdhbpdfldfnhaaGreatDoor.Nm
open Go.RowKit Go.Proofs.YtpdhbpdfldfnhaaGreatDoorW.PrintWords Go.Proofs.YtpdhbpdfldfnhaaGreatDoorW.PrintLast Go.Proofs.YtpdhbpdfldfnhaaGreatDoorW.PrintMore
attribute [local go_sem] max2_int min2_int max_two min_two max_three min_three max_four min_four   -- for this text's walks alone

/-! ### chirographref14_Huge: function 4 -/
def chirographref14_Huge.l0 : Nat → List (S25) → Int → Int → Option (Bool)
  | 0, _, _, _ => none
  | k + 1, x0, x2, x7 => if x7 < (x0.length : Int) then (if 0 ≤ x7 then (if (((rd_T25 x0 x7).f1).size : Int) > x2 then (some true) else (if (((rd_T25 x0 x7).f2).length : Int) > x2 then (some true) else ((chirographref07_Huge.f k ((rd_T25 x0 x7).f3) x2).bind fun t122 => (if t122 = true then (some true) else (chirographref14_Huge.l0 k x0 x2 (wrap64 (x7 + 1))))))) else (none)) else (some false)
def chirographref14_Huge.f (k : Nat) (l0 : List (S25)) (a1 : Int) (a2 : Int) : Option (Bool) := if (l0.length : Int) > a1 then (some true) else (chirographref14_Huge.l0 k l0 a2 0)
theorem chirographref14_Huge.mono_l : ∀ k, (∀ y0 y1 y2, LeO (chirographref14_Huge.l0 k y0 y1 y2) (chirographref14_Huge.l0 (k + 1) y0 y1 y2))
  | 0 => fun _ _ _ r h => by simp [chirographref14_Huge.l0] at h
  | k + 1 => by
    have ih0 := chirographref14_Huge.mono_l k
    · intro y0 y1 y2
      unfold chirographref14_Huge.l0
      repeat' first
      | (with_reducible exact ih0 _ _ _)
      | (with_reducible exact chirographref07_Huge.mono _ _ _)
      | (with_reducible exact LeO.refl _)
      | (with_reducible exact LeO.none _)
      | (with_reducible refine LeO.ite ?_ ?_)
      | (with_reducible refine LeO.bind ?_ (fun _ => ?_))
      | exact ih0 _ _ _
      | exact chirographref07_Huge.mono _ _ _
      | exact LeO.none _
      | refine LeO.ite ?_ ?_
      | refine LeO.bind ?_ (fun _ => ?_)
theorem chirographref14_Huge.mono : ∀ a0 a1 a2 k, LeO (chirographref14_Huge.f k a0 a1 a2) (chirographref14_Huge.f (k + 1) a0 a1 a2) := by
  intro a0 a1 a2 k
  have ih0 := chirographref14_Huge.mono_l k
  unfold chirographref14_Huge.f
  repeat' first
      | (with_reducible exact ih0 _ _ _)
      | (with_reducible exact chirographref07_Huge.mono _ _ _)
      | (with_reducible exact LeO.refl _)
      | (with_reducible exact LeO.none _)
      | (with_reducible refine LeO.ite ?_ ?_)
      | (with_reducible refine LeO.bind ?_ (fun _ => ?_))
      | exact ih0 _ _ _
      | exact chirographref07_Huge.mono _ _ _
      | exact LeO.none _
      | refine LeO.ite ?_ ?_
      | refine LeO.bind ?_ (fun _ => ?_)
set_option maxHeartbeats 8000000 in
set_option maxRecDepth 100000 in
theorem chirographref14_Huge.calls (k : Nat) (A0 : Option Addr) (c0 : Nat) (l0 : List (S25)) (a1 : Int) (a2 : Int) (r : Bool) (w : World) (hr0 : Kd.C k25 w A0 l0.length l0) (hc0 : l0.length ≤ c0) (h : chirographref14_Huge.f k l0 a1 a2 = some r) :
    Calls Tryz.prog 4 #[.slice A0 l0.length c0, .int .i64 a1, .int .i64 a2] w fun e w' => e = .returned (.bool r) ∧ Drawn0 w w' := by
  have HR0 := Aside0.mk hr0
  have HC0 := Aside0.mk hc0
  clear hr0 hc0
  have H : (if (l0.length : Int) > a1 then (some true) else (chirographref14_Huge.l0 k l0 a2 0)) = some r := h
  clear h
  by_cases c4 : (l0.length : Int) > a1
  · rw [if_pos c4] at H
    have c4b0 : decide (a1 < (l0.length : Int)) = true := decide_eq_true c4
    clear c4
    obtain rfl := Option.some.inj H
    go_enter Tryz.func4, Tryz.ntmps4
    go_wp2
    go_ret
    exact ⟨by first | rfl | (simp; done) | (simp [*]; done), by repeat (first | exact Drawn0.refl _ | apply Drawn0.step)⟩
  · rw [if_neg c4] at H
    have c4b0 : decide (a1 < (l0.length : Int)) = false := decide_eq_false c4
    clear c4
    have H' := Aside0.mk H
    clear H
    go_enter Tryz.func4, Tryz.ntmps4
    go_wp2
    go_loopg [7] k (fun kq v7 w' => ∃ (x7_1 : Int), v7 = .int .i64 x7_1 ∧ Aside0 (chirographref14_Huge.l0 kq l0 a2 x7_1 = some r) ∧ Aside0 (kq ≤ k) ∧ Drawn0 w w')
    case atStart => exact ⟨(0), (by first | rfl | (simp; done) | (simp [*]; done)), H', ⟨Nat.le_refl _⟩, by repeat (first | exact Drawn0.refl _ | apply Drawn0.step)⟩
    case round =>
      clear H'
      try clear p2
      try clear c4
      try clear c4b0
      obtain ⟨x7_1, rfl, HA, HK1, ⟨m1, rfl⟩⟩ := hrel
      cases gk with
      | zero => exact absurd HA.out (by simp [chirographref14_Huge.l0])
      | succ k1 =>
        have H := HA.out
        clear HA
        simp only [chirographref14_Huge.l0] at H
        by_cases c5 : x7_1 < (l0.length : Int)
        · rw [if_pos c5] at H
          have c5b0 : decide (x7_1 < (l0.length : Int)) = true := decide_eq_true c5
          clear c5
          by_cases c6 : 0 ≤ x7_1
          · rw [if_pos c6] at H
            have c6b0 : decide (0 ≤ x7_1) = true := decide_eq_true c6
            clear c6
            by_cases c7 : (((rd_T25 l0 x7_1).f1).size : Int) > a2
            · rw [if_pos c7] at H
              have c7b0 : decide (a2 < (((rd_T25 l0 x7_1).f1).size : Int)) = true := decide_eq_true c7
              clear c7
              obtain rfl := Option.some.inj H
              have p119 : 0 ≤ (x7_1 : Int) := of_decide_eq_true (by first | (with_reducible assumption) | assumption)
              have q119 : x7_1 < (l0.length : Int) := of_decide_eq_true (by first | (with_reducible assumption) | assumption)
              obtain ⟨ad119, A119_2, c119_2, A119_3, c119_3, e119, hx119_0, hx119_1, hx119_2, hx119_3, hl119_2, hi119_2, hl119_3, hi119_3⟩ := at_T25 HR0.out x7_1 p119 q119
              cases e119
              have HR119_2 := Aside0.mk hi119_2
              have HC119_2 := Aside0.mk hl119_2
              clear hi119_2 hl119_2
              have HR119_3 := Aside0.mk hi119_3
              have HC119_3 := Aside0.mk hl119_3
              clear hi119_3 hl119_3
              replace p119 := eq_true p119
              replace q119 := eq_true q119
              go_wp2
              go_ret
              exact ⟨by first | rfl | (simp; done) | (simp [*]; done), by repeat (first | exact Drawn0.refl _ | apply Drawn0.step)⟩
            · rw [if_neg c7] at H
              have c7b0 : decide (a2 < (((rd_T25 l0 x7_1).f1).size : Int)) = false := decide_eq_false c7
              clear c7
              by_cases c8 : (((rd_T25 l0 x7_1).f2).length : Int) > a2
              · rw [if_pos c8] at H
                have c8b0 : decide (a2 < (((rd_T25 l0 x7_1).f2).length : Int)) = true := decide_eq_true c8
                clear c8
                obtain rfl := Option.some.inj H
                have p119 : 0 ≤ (x7_1 : Int) := of_decide_eq_true (by first | (with_reducible assumption) | assumption)
                have q119 : x7_1 < (l0.length : Int) := of_decide_eq_true (by first | (with_reducible assumption) | assumption)
                obtain ⟨ad119, A119_2, c119_2, A119_3, c119_3, e119, hx119_0, hx119_1, hx119_2, hx119_3, hl119_2, hi119_2, hl119_3, hi119_3⟩ := at_T25 HR0.out x7_1 p119 q119
                cases e119
                have HR119_2 := Aside0.mk hi119_2
                have HC119_2 := Aside0.mk hl119_2
                clear hi119_2 hl119_2
                have HR119_3 := Aside0.mk hi119_3
                have HC119_3 := Aside0.mk hl119_3
                clear hi119_3 hl119_3
                replace p119 := eq_true p119
                replace q119 := eq_true q119
                have p120 : 0 ≤ (x7_1 : Int) := of_decide_eq_true (by first | (with_reducible assumption) | assumption)
                have q120 : x7_1 < (l0.length : Int) := of_decide_eq_true (by first | (with_reducible assumption) | assumption)
                obtain ⟨ad120, A120_2, c120_2, A120_3, c120_3, e120, hx120_0, hx120_1, hx120_2, hx120_3, hl120_2, hi120_2, hl120_3, hi120_3⟩ := at_T25 HR0.out x7_1 p120 q120
                obtain rfl : ad119 = ad120 := (by injection e120)
                have HR120_2 := Aside0.mk hi120_2
                have HC120_2 := Aside0.mk hl120_2
                clear hi120_2 hl120_2
                have HR120_3 := Aside0.mk hi120_3
                have HC120_3 := Aside0.mk hl120_3
                clear hi120_3 hl120_3
                replace p120 := eq_true p120
                replace q120 := eq_true q120
                have ea_ := Option.some.inj (hx119_2.symm.trans hx120_2)
                injection ea_ with ea_ en_ ec_
                subst ea_
                subst ec_
                clear en_
                have ea_ := Option.some.inj (hx119_3.symm.trans hx120_3)
                injection ea_ with ea_ en_ ec_
                subst ea_
                subst ec_
                clear en_
                go_wp2
                go_ret
                exact ⟨by first | rfl | (simp; done) | (simp [*]; done), by repeat (first | exact Drawn0.refl _ | apply Drawn0.step)⟩
              · rw [if_neg c8] at H
                have c8b0 : decide (a2 < (((rd_T25 l0 x7_1).f2).length : Int)) = false := decide_eq_false c8
                clear c8
                replace H := Option.bind_eq_some_iff.mp H
                obtain ⟨t122, A90, H⟩ := H
                replace H : (if t122 = true then (some true) else (chirographref14_Huge.l0 k1 l0 a2 (wrap64 (x7_1 + 1)))) = some r := H
                have A9 := Aside0.mk A90
                clear A90
                by_cases c10 : t122 = true
                · subst c10
                  have H1 : (some true) = some r := by rw [if_pos rfl] at H; exact H
                  clear H
                  have H := H1
                  clear H1
                  obtain rfl := Option.some.inj H
                  have p119 : 0 ≤ (x7_1 : Int) := of_decide_eq_true (by first | (with_reducible assumption) | assumption)
                  have q119 : x7_1 < (l0.length : Int) := of_decide_eq_true (by first | (with_reducible assumption) | assumption)
                  obtain ⟨ad119, A119_2, c119_2, A119_3, c119_3, e119, hx119_0, hx119_1, hx119_2, hx119_3, hl119_2, hi119_2, hl119_3, hi119_3⟩ := at_T25 HR0.out x7_1 p119 q119
                  cases e119
                  have HR119_2 := Aside0.mk hi119_2
                  have HC119_2 := Aside0.mk hl119_2
                  clear hi119_2 hl119_2
                  have HR119_3 := Aside0.mk hi119_3
                  have HC119_3 := Aside0.mk hl119_3
                  clear hi119_3 hl119_3
                  replace p119 := eq_true p119
                  replace q119 := eq_true q119
                  have p120 : 0 ≤ (x7_1 : Int) := of_decide_eq_true (by first | (with_reducible assumption) | assumption)
                  have q120 : x7_1 < (l0.length : Int) := of_decide_eq_true (by first | (with_reducible assumption) | assumption)
                  obtain ⟨ad120, A120_2, c120_2, A120_3, c120_3, e120, hx120_0, hx120_1, hx120_2, hx120_3, hl120_2, hi120_2, hl120_3, hi120_3⟩ := at_T25 HR0.out x7_1 p120 q120
                  obtain rfl : ad119 = ad120 := (by injection e120)
                  have HR120_2 := Aside0.mk hi120_2
                  have HC120_2 := Aside0.mk hl120_2
                  clear hi120_2 hl120_2
                  have HR120_3 := Aside0.mk hi120_3
                  have HC120_3 := Aside0.mk hl120_3
                  clear hi120_3 hl120_3
                  replace p120 := eq_true p120
                  replace q120 := eq_true q120
                  have ea_ := Option.some.inj (hx119_2.symm.trans hx120_2)
                  injection ea_ with ea_ en_ ec_
                  subst ea_
                  subst ec_
                  clear en_
                  have ea_ := Option.some.inj (hx119_3.symm.trans hx120_3)
                  injection ea_ with ea_ en_ ec_
                  subst ea_
                  subst ec_
                  clear en_
                  have p121 : 0 ≤ (x7_1 : Int) := of_decide_eq_true (by first | (with_reducible assumption) | assumption)
                  have q121 : x7_1 < (l0.length : Int) := of_decide_eq_true (by first | (with_reducible assumption) | assumption)
                  obtain ⟨ad121, A121_2, c121_2, A121_3, c121_3, e121, hx121_0, hx121_1, hx121_2, hx121_3, hl121_2, hi121_2, hl121_3, hi121_3⟩ := at_T25 HR0.out x7_1 p121 q121
                  obtain rfl : ad119 = ad121 := (by injection e121)
                  have HR121_2 := Aside0.mk hi121_2
                  have HC121_2 := Aside0.mk hl121_2
                  clear hi121_2 hl121_2
                  have HR121_3 := Aside0.mk hi121_3
                  have HC121_3 := Aside0.mk hl121_3
                  clear hi121_3 hl121_3
                  replace p121 := eq_true p121
                  replace q121 := eq_true q121
                  have ea_ := Option.some.inj (hx119_2.symm.trans hx121_2)
                  injection ea_ with ea_ en_ ec_
                  subst ea_
                  subst ec_
                  clear en_
                  have ea_ := Option.some.inj (hx119_3.symm.trans hx121_3)
                  injection ea_ with ea_ en_ ec_
                  subst ea_
                  subst ec_
                  clear en_
                  go_wp2_with (first | (go_at_call 8; (with_reducible refine (chirographref07_Huge.calls k1 _ _ ((rd_T25 l0 x7_1).f3) a2 true _ ?side1 ?side2 A9.out).mono ?_); (case side1 => repeat (first | exact HR121_3.out | (with_reducible refine Kd.C_alloc ?_ _) | (with_reducible refine Kd.C_drewN ?_ _) | (with_reducible refine Kd.C_drew ?_))); (case side2 => exact HC121_3.out); rintro e w' ⟨rfl, ⟨nd, rfl⟩⟩))
                  go_ret
                  exact ⟨by first | rfl | (simp; done) | (simp [*]; done), by repeat (first | exact Drawn0.refl _ | apply Drawn0.step)⟩
                · replace c10 := Bool.eq_false_iff.mpr c10
                  subst c10
                  have H1 : (chirographref14_Huge.l0 k1 l0 a2 (wrap64 (x7_1 + 1))) = some r := by rw [if_neg (show ¬ (false = true) by decide)] at H; exact H
                  clear H
                  have H := H1
                  clear H1
                  have H' := Aside0.mk H
                  clear H
                  have p119 : 0 ≤ (x7_1 : Int) := of_decide_eq_true (by first | (with_reducible assumption) | assumption)
                  have q119 : x7_1 < (l0.length : Int) := of_decide_eq_true (by first | (with_reducible assumption) | assumption)
                  obtain ⟨ad119, A119_2, c119_2, A119_3, c119_3, e119, hx119_0, hx119_1, hx119_2, hx119_3, hl119_2, hi119_2, hl119_3, hi119_3⟩ := at_T25 HR0.out x7_1 p119 q119
                  cases e119
                  have HR119_2 := Aside0.mk hi119_2
                  have HC119_2 := Aside0.mk hl119_2
                  clear hi119_2 hl119_2
                  have HR119_3 := Aside0.mk hi119_3
                  have HC119_3 := Aside0.mk hl119_3
                  clear hi119_3 hl119_3
                  replace p119 := eq_true p119
                  replace q119 := eq_true q119
                  have p120 : 0 ≤ (x7_1 : Int) := of_decide_eq_true (by first | (with_reducible assumption) | assumption)
                  have q120 : x7_1 < (l0.length : Int) := of_decide_eq_true (by first | (with_reducible assumption) | assumption)
                  obtain ⟨ad120, A120_2, c120_2, A120_3, c120_3, e120, hx120_0, hx120_1, hx120_2, hx120_3, hl120_2, hi120_2, hl120_3, hi120_3⟩ := at_T25 HR0.out x7_1 p120 q120
                  obtain rfl : ad119 = ad120 := (by injection e120)
                  have HR120_2 := Aside0.mk hi120_2
                  have HC120_2 := Aside0.mk hl120_2
                  clear hi120_2 hl120_2
                  have HR120_3 := Aside0.mk hi120_3
                  have HC120_3 := Aside0.mk hl120_3
                  clear hi120_3 hl120_3
                  replace p120 := eq_true p120
                  replace q120 := eq_true q120
                  have ea_ := Option.some.inj (hx119_2.symm.trans hx120_2)
                  injection ea_ with ea_ en_ ec_
                  subst ea_
                  subst ec_
                  clear en_
                  have ea_ := Option.some.inj (hx119_3.symm.trans hx120_3)
                  injection ea_ with ea_ en_ ec_
                  subst ea_
                  subst ec_
                  clear en_
                  have p121 : 0 ≤ (x7_1 : Int) := of_decide_eq_true (by first | (with_reducible assumption) | assumption)
                  have q121 : x7_1 < (l0.length : Int) := of_decide_eq_true (by first | (with_reducible assumption) | assumption)
                  obtain ⟨ad121, A121_2, c121_2, A121_3, c121_3, e121, hx121_0, hx121_1, hx121_2, hx121_3, hl121_2, hi121_2, hl121_3, hi121_3⟩ := at_T25 HR0.out x7_1 p121 q121
                  obtain rfl : ad119 = ad121 := (by injection e121)
                  have HR121_2 := Aside0.mk hi121_2
                  have HC121_2 := Aside0.mk hl121_2
                  clear hi121_2 hl121_2
                  have HR121_3 := Aside0.mk hi121_3
                  have HC121_3 := Aside0.mk hl121_3
                  clear hi121_3 hl121_3
                  replace p121 := eq_true p121
                  replace q121 := eq_true q121
                  have ea_ := Option.some.inj (hx119_2.symm.trans hx121_2)
                  injection ea_ with ea_ en_ ec_
                  subst ea_
                  subst ec_
                  clear en_
                  have ea_ := Option.some.inj (hx119_3.symm.trans hx121_3)
                  injection ea_ with ea_ en_ ec_
                  subst ea_
                  subst ec_
                  clear en_
                  go_wp2_with (first | (go_at_call 8; (with_reducible refine (chirographref07_Huge.calls k1 _ _ ((rd_T25 l0 x7_1).f3) a2 false _ ?side1 ?side2 A9.out).mono ?_); (case side1 => repeat (first | exact HR121_3.out | (with_reducible refine Kd.C_alloc ?_ _) | (with_reducible refine Kd.C_drewN ?_ _) | (with_reducible refine Kd.C_drew ?_))); (case side2 => exact HC121_3.out); rintro e w' ⟨rfl, ⟨nd, rfl⟩⟩))
                  go_roundg k1
                  case measure => have := HK1.out; omega
                  case rel => exact ⟨(wrap64 (x7_1 + 1)), (by first | rfl | (simp; done) | (simp [*]; done)), H', ⟨by have := HK1.out; omega⟩, by repeat (first | exact Drawn0.refl _ | apply Drawn0.step)⟩
          · rw [if_neg c6] at H
            exact absurd H (by simp)
        · rw [if_neg c5] at H
          have c5b0 : decide (x7_1 < (l0.length : Int)) = false := decide_eq_false c5
          clear c5
          obtain rfl := Option.some.inj H
          go_wp2
          go_ret
          exact ⟨by first | rfl | (simp; done) | (simp [*]; done), by repeat (first | exact Drawn0.refl _ | apply Drawn0.step)⟩

end Go.Proofs.YtpdhbpdfldfnhaaGreatDoor.Nm
