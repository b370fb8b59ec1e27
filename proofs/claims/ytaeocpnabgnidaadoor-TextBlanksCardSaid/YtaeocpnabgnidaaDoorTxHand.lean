/- The functions that are taken by hand: what each answers, in the form in which a printed function is called. -/
import Derived.Lib.AppendIntMem
import Derived.Test.YtaeocpnabgnidaaDoorTxWFold
import Derived.Test.YtaeocpnabgnidaaDoorTxWValid
import Derived.Test.YtaeocpnabgnidaaDoorTxWWide
set_option linter.unusedVariables false
namespace Go.Proofs.YtaeocpnabgnidaaDoor.Tx
open Go.RowKit Go.Lib Go.Proofs.YtaeocpnabgnidaaDoorW.PrintWords

def okBytes (l : List Int) : Bool := l.all fun x => decide (0 ≤ x ∧ x < 256)
theorem okBytes_iff (l : List Int) : okBytes l = true ↔ ∀ x ∈ l, 0 ≤ x ∧ x < 256 := by simp [okBytes]
theorem bts_eq (s : ByteArray) : bts s = bytesOf s := rfl
theorem toNums (l : List Int) (h : ∀ x ∈ l, 0 ≤ x ∧ x < 256) : bytesOf (strOfNums l) = l := by
  unfold bytesOf strOfNums
  simp only [List.map_map]
  conv => rhs; rw [← List.map_id l]
  apply List.map_congr_left
  intro x hx
  obtain ⟨h0, h1⟩ := h x hx
  simp only [Function.comp, UInt8.toNat_ofNat', id_eq]
  omega
theorem strOfNums_size (l : List Int) : (strOfNums l).size = l.length := by
  rw [← data_length]
  simp [strOfNums]

theorem reads_of_C {w : World} {A : Option Addr} {l : List Int} (h : Kd.C (Kd.int .u8) w A l.length l) : ReadsInt w .u8 A l.length l := Kd.reads_of_C (d := (0 : Int)) h

/-- strings.IndexByte. -/
def index_f (a0 : ByteArray) (a1 : Int) : Option Int := if 0 ≤ a1 ∧ a1 < 256 then some (Lib.indexByte a0.data.toList a1.toNat.toUInt8) else none
theorem index_calls (a0 : ByteArray) (a1 r : Int) (w : World) (h : index_f a0 a1 = some r) : Calls Tryd.prog 29 #[.string a0, .int .u8 a1] w fun e w' => e = .returned (.int .i64 r) ∧ Drawn0 w w' := by
  unfold index_f at h
  split at h
  · cases h
    exact (Tryd.strings_IndexByte a0 a1 w).mono fun e w' ⟨he, hw⟩ => ⟨he, by subst hw; exact Drawn0.refl _⟩
  · cases h

/-- text.Fold. -/
def fold_f (a0 : ByteArray) : Option ByteArray := if a0.size ≤ 35184372088832 then some (strOfNums (foldL (bytesOf a0))) else none
theorem fold_calls (a0 r : ByteArray) (w : World) (hT : Tabs w) (h : fold_f a0 = some r) : Calls Tryd.prog 15 #[.string a0] w fun e w' => e = .returned (.string r) ∧ Below w.heap.size w w' := by
  unfold fold_f at h
  split at h
  · rename_i hs
    cases h
    exact fold_walk a0 w hs hT
  · cases h

/-- text.wide. -/
def wide_f (l0 : List Int) : Option (ByteArray × Int) := if l0.length ≤ 35184372088832 ∧ okBytes l0 = true then some (wideS l0, wideE l0) else none
theorem wide_calls (A0 : Option Addr) (c0 : Nat) (l0 : List Int) (r1 : ByteArray) (r2 : Int) (w : World) (hr0 : Kd.C (Kd.int .u8) w A0 l0.length l0) (hc0 : l0.length ≤ c0) (h : wide_f l0 = some (r1, r2)) :
    Calls Tryd.prog 19 #[.slice A0 l0.length c0] w fun e w' => e = .returned (.tuple #[.string r1, .int .i64 r2]) ∧ Below w.heap.size w w' := by
  unfold wide_f at h
  split at h
  · rename_i hs
    cases h
    exact wide_walk A0 c0 l0 w (reads_of_C hr0) hc0 hs.1 ((okBytes_iff l0).1 hs.2)
  · cases h

/-- unicode/utf8.Valid. -/
def valid_f (l0 : List Int) : Option Bool := if okBytes l0 = true then some (Lib.validD (strOfNums l0).data.toList) else none
theorem valid_calls (A0 : Option Addr) (c0 : Nat) (l0 : List Int) (r : Bool) (w : World) (hr0 : Kd.C (Kd.int .u8) w A0 l0.length l0) (hc0 : l0.length ≤ c0) (hT : Tabs w) (h : valid_f l0 = some r) :
    Calls Tryd.prog 20 #[.slice A0 l0.length c0] w fun e w' => e = .returned (.bool r) ∧ Below w.heap.size w w' := by
  unfold valid_f at h
  split at h
  · rename_i hs
    cases h
    have hn := toNums l0 ((okBytes_iff l0).1 hs)
    have hsz := strOfNums_size l0
    have hr : ReadsB w A0 (strOfNums l0) := by
      unfold ReadsB
      rw [hsz, hn]
      exact reads_of_C hr0
    have := valid_walk A0 c0 (strOfNums l0) w hr (by rw [hsz]; exact hc0) hT
    rw [hsz] at this
    exact this
  · cases h

/-- strconv.Itoa. -/
def itoa_f (a0 : Int) : Option ByteArray := if -9223372036854775808 ≤ a0 ∧ a0 ≤ 9223372036854775807 then some ⟨(Lib.itoa a0).toArray⟩ else none
theorem itoa_calls (a0 : Int) (r : ByteArray) (w : World) (hT : Tabs w) (h : itoa_f a0 = some r) : Calls Tryd.prog 27 #[.int .i64 a0] w fun e w' => e = .returned (.string r) ∧ Below w.heap.size w w' := by
  unfold itoa_f at h
  split at h
  · rename_i hs
    cases h
    refine (Tryd.strconv_Itoa a0 hs.1 hs.2 w hT.p10).mono fun e w' ⟨he, k, os, hw⟩ => ⟨he, ?_⟩
    subst hw
    exact Lib.below_grow _ _ (Nat.le_refl _) _ _
  · cases h
end Go.Proofs.YtaeocpnabgnidaaDoor.Tx
