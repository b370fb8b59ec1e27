/- unicode/utf8.word of a slice of bytes: the number that its first eight bytes spell. -/
import Derived.Test.YtaeocpnabgnidaaDoorShelf
import Derived.Test.YtaeocpnabgnidaaDoorWWords
import Derived.Shelf.Unicode.WordAny
import Derived.Lib.ValidAsc
import Derived.Lib.EndianBits
import Derived.WalkKit
import Derived.RegionTactic
import Derived.Deep.Draws
import Derived.Deep.QuietTactic
import Derived.BigQuiet
import Derived.Outline
set_option linter.unusedVariables false
namespace Go.Proofs.YtaeocpnabgnidaaDoor.Tx
open Go.RowKit Go.Lib Go.Proofs.YtaeocpnabgnidaaDoorW.PrintWords

theorem addr_zero (a : Addr) : a.add 0 = a := by simp [Addr.add]
/-- A slice that reads as a string's bytes. -/
def ReadsB (w : World) (A : Option Addr) (t : ByteArray) : Prop := ReadsInt w .u8 A t.size (bytesOf t)
theorem bytesOf_get (t : ByteArray) (j : Nat) (h : j < t.size) : (bytesOf t).getD j 0 = ((t.get! j).toNat : Int) := by
  have h' : j < t.data.toList.length := by rw [data_length]; exact h
  simp only [bytesOf, List.getD_eq_getElem?_getD, List.getElem?_map, List.getElem?_eq_getElem h', Option.map_some, Option.getD_some]
  congr 2
  rw [Utf8W.get!_of_lt t j h]
  rfl
theorem ReadsB.cell {w : World} {ad : Addr} {t : ByteArray} (h : ReadsB w (some ad) t) (j : Nat) (hj : j < t.size) : w.cell? (ad.add j) = some (.int .u8 ((t.get! j).toNat : Int)) := by
  obtain ⟨ad', e, hc⟩ := h.2.2 (by omega)
  cases e
  rw [hc j hj, bytesOf_get t j hj]
theorem ReadsB.cellS {w : World} {ad : Addr} {t : ByteArray} (h : ReadsB w (some ad) t) (j : Nat) (hj : j + 1 < t.size) : w.cell? ⟨ad.block, ad.off + (j + 1), none⟩ = some (.int .u8 ((t.get! (j + 1)).toNat : Int)) := by
  have := h.cell (j + 1) hj
  unfold Addr.add at this
  rw [if_neg (by omega)] at this
  exact this
theorem ReadsB.cell0 {w : World} {ad : Addr} {t : ByteArray} (h : ReadsB w (some ad) t) (hj : 0 < t.size) : w.cell? ad = some (.int .u8 ((t.get! 0).toNat : Int)) := by
  have := h.cell 0 hj
  rw [addr_zero] at this
  exact this
theorem ReadsB.addr {w : World} {A : Option Addr} {t : ByteArray} (h : ReadsB w A t) (h0 : 0 < t.size) : ∃ ad, A = some ad := by
  obtain ⟨ad, e, _⟩ := h.2.2 h0
  exact ⟨ad, e⟩

set_option maxHeartbeats 8000000 in
set_option maxRecDepth 100000 in
theorem word_walk (A : Option Addr) (c : Nat) (s : ByteArray) (w : World) (hr : ReadsB w A s) (hs : 8 ≤ s.size) :
    Calls Tryd.prog 28 #[.slice A s.size c] w fun e w' => e = .returned (.int .u64 (Lib.leNat [s.get! 0, s.get! 1, s.get! 2, s.get! 3, s.get! 4, s.get! 5, s.get! 6, s.get! 7])) ∧ ∃ q, w' = w.drewN q := by
  obtain ⟨ad, rfl⟩ := hr.addr (by omega)
  obtain ⟨x0, hx0⟩ : ∃ x0, s.get! 0 = x0 := ⟨_, rfl⟩
  obtain ⟨x1, hx1⟩ : ∃ x1, s.get! 1 = x1 := ⟨_, rfl⟩
  obtain ⟨x2, hx2⟩ : ∃ x2, s.get! 2 = x2 := ⟨_, rfl⟩
  obtain ⟨x3, hx3⟩ : ∃ x3, s.get! 3 = x3 := ⟨_, rfl⟩
  obtain ⟨x4, hx4⟩ : ∃ x4, s.get! 4 = x4 := ⟨_, rfl⟩
  obtain ⟨x5, hx5⟩ : ∃ x5, s.get! 5 = x5 := ⟨_, rfl⟩
  obtain ⟨x6, hx6⟩ : ∃ x6, s.get! 6 = x6 := ⟨_, rfl⟩
  obtain ⟨x7, hx7⟩ : ∃ x7, s.get! 7 = x7 := ⟨_, rfl⟩
  have hs0 := hr.cell0 (by omega)
  have hs1 := hr.cellS 0 (by omega)
  have hs2 := hr.cellS 1 (by omega)
  have hs3 := hr.cellS 2 (by omega)
  have hs4 := hr.cellS 3 (by omega)
  have hs5 := hr.cellS 4 (by omega)
  have hs6 := hr.cellS 5 (by omega)
  have hs7 := hr.cellS 6 (by omega)
  rw [hx0] at hs0
  rw [hx1] at hs1
  rw [hx2] at hs2
  rw [hx3] at hs3
  rw [hx4] at hs4
  rw [hx5] at hs5
  rw [hx6] at hs6
  rw [hx7] at hs7
  rw [hx0, hx1, hx2, hx3, hx4, hx5, hx6, hx7]
  clear hx0 hx1 hx2 hx3 hx4 hx5 hx6 hx7
  have h0 : x0.toNat < 256 := x0.toNat_lt
  have h1 : x1.toNat < 256 := x1.toNat_lt
  have h2 : x2.toNat < 256 := x2.toNat_lt
  have h3 : x3.toNat < 256 := x3.toNat_lt
  have h4 : x4.toNat < 256 := x4.toNat_lt
  have h5 : x5.toNat < 256 := x5.toNat_lt
  have h6 : x6.toNat < 256 := x6.toNat_lt
  have h7 : x7.toNat < 256 := x7.toNat_lt
  have hv : ((Lib.leNat [x0, x1, x2, x3, x4, x5, x6, x7] : Nat) : Int) = (x0.toNat : Int) + (x1.toNat : Int) * 256 + (x2.toNat : Int) * 65536 + (x3.toNat : Int) * 16777216 + (x4.toNat : Int) * 4294967296 + (x5.toNat : Int) * 1099511627776 + (x6.toNat : Int) * 281474976710656 + (x7.toNat : Int) * 72057594037927936 := by
    simp only [Lib.leNat]
    push_cast
    omega
  have HV := Lib.hid hv
  clear hv
  obtain ⟨n, hn⟩ : ∃ n, s.size = n := ⟨_, rfl⟩
  rw [hn] at hs ⊢
  clear hr hn
  have q0 : (0 : Int) < (n : Int) := by omega
  have p0 : 0 < n := by omega
  have q1 : (1 : Int) < (n : Int) := by omega
  have p1 : 1 < n := by omega
  have q2 : (2 : Int) < (n : Int) := by omega
  have p2 : 2 < n := by omega
  have q3 : (3 : Int) < (n : Int) := by omega
  have p3 : 3 < n := by omega
  have q4 : (4 : Int) < (n : Int) := by omega
  have p4 : 4 < n := by omega
  have q5 : (5 : Int) < (n : Int) := by omega
  have p5 : 5 < n := by omega
  have q6 : (6 : Int) < (n : Int) := by omega
  have p6 : 6 < n := by omega
  have q7 : (7 : Int) < (n : Int) := by omega
  have p7 : 7 < n := by omega
  go_enter Tryd.func28, Tryd.ntmps28
  go_wp2
  go_quiet (fail)
  go_wp2
  go_ret
  refine ⟨?_, _, rfl⟩
  simp (disch := omega) only [u64_or8, u64_or16, u64_or24, u64_or32, u64_or40, u64_or48, u64_or56]
  rw [HV.out]
  rfl
end Go.Proofs.YtaeocpnabgnidaaDoor.Tx
