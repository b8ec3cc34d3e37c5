/- Bytes: big-endian numbers out of them; strings as rows of bytes. -/
import Derived.Test.YtlpcphndgjibpaaDoorZGM2
namespace Go.Proofs.YtlpcphndgjibpaaDoor.M
open Go.RowKit Go.Proofs.YtlpcphndgjibpaaDoorW.PrintWords Go.Proofs.YtlpcphndgjibpaaDoorW.PrintMore
set_option linter.unusedVariables false
/-- The number of m bytes from i on, the first the highest. -/
def bePart (s : ByteArray) (i : Nat) : Nat → Nat
  | 0 => 0
  | m + 1 => bePart s i m * 256 + (bt s ((i + m : Nat) : Int)).toNat
/-- The words of so many times eight bytes. -/
def beWords (s : ByteArray) (n : Nat) : List Int := (List.range n).map fun c => ((bePart s (8 * c) 8 : Nat) : Int)
/-- What stands of the words behind t bytes. -/
def beWordsAt (s : ByteArray) (n t : Nat) : List Int := (List.range n).map fun c => ((bePart s (8 * c) (min 8 (t - 8 * c)) : Nat) : Int)
/-! strings -/
def B (l : List Int) : Prop := ∀ x ∈ l, 0 ≤ x ∧ x < 256
theorem bytesOf_strOfNums {l : List Int} (h : B l) : bytesOf (strOfNums l) = l := by
  unfold bytesOf
  rw [strOfNums_data, List.map_map]
  have : ∀ x ∈ l, ((fun b : UInt8 => (b.toNat : Int)) ∘ fun n : Int => UInt8.ofNat n.toNat) x = x := fun x hx => by
    have := h x hx
    simp only [Function.comp]
    rw [UInt8.toNat_ofNat']
    omega
  calc l.map _ = l.map id := List.map_congr_left this
    _ = l := List.map_id l
theorem bt_rd (s : ByteArray) (i : Nat) : bt s (i : Int) = (bytesOf s).getD i 0 := by
  rw [← rd_bytesOf]; unfold rd; rw [Int.toNat_natCast]
theorem bytesOf_B (s : ByteArray) : B (bytesOf s) := fun x hx => by
  obtain ⟨b, _, rfl⟩ := List.mem_map.1 hx
  have := b.toNat_lt
  show 0 ≤ (b.toNat : Int) ∧ (b.toNat : Int) < 256
  omega
/-- The eight bytes of a word. -/
def bytes8 (x : Int) : List Int := [x / 72057594037927936 % 256, x / 281474976710656 % 256, x / 1099511627776 % 256, x / 4294967296 % 256, x / 16777216 % 256, x / 65536 % 256, x / 256 % 256, x % 256]
def bytesV (l : List Int) : List Int := l.flatMap bytes8
end Go.Proofs.YtlpcphndgjibpaaDoor.M
