/- A packet's bytes and what is read of them. -/
import Derived.Test.YtbcphdbcdjdfpaaDoorZSSpa
namespace Go.Proofs.YtbcphdbcdjdfpaaDoor.S
open Go.RowKit Go.Proofs.YtbcphdbcdjdfpaaDoor.P Go.Proofs.YtbcphdbcdjdfpaaDoorW.PrintWords Go.Proofs.YtbcphdbcdjdfpaaDoorW.PrintLast Go.Proofs.YtbcphdbcdjdfpaaDoorW.PrintMore Go.Proofs.YtbcphdbcdjdfpaaDoor.M
set_option linter.unusedVariables false
theorem bytesOf_extract (s : ByteArray) (a b : Nat) : bytesOf (s.extract a b) = ((bytesOf s).drop a).take (b - a) := by
  unfold bytesOf
  rw [ByteArray.data_extract, Array.toList_extract, List.extract_eq_take_drop, List.map_take, List.map_drop]
theorem bytesOf_encB (o l k z h : Int) (v : List Int) (d : ByteArray) : bytesOf (encB o l k z h v d) = [o / 16777216 % 256, o / 65536 % 256, o / 256 % 256, o % 256, l / 16777216 % 256, l / 65536 % 256, l / 256 % 256, l % 256, k % 256, z % 256, h % 256] ++ (bytesV v ++ bytesOf d) := by
  unfold encB
  simp only [bytesOf_append, bytesOf_strOfNums (putL_B _ _), bytesOf_strOfNums (bytesV_B v)]
  simp only [putL_4, putL_1, List.cons_append, List.nil_append]
theorem encB_size (o l k z h : Int) (v : List Int) (d : ByteArray) : (encB o l k z h v d).size = 11 + 8 * v.length + d.size := by
  rw [bytesOf_size, bytesOf_encB, List.length_append, List.length_append, bytesV_length, ← bytesOf_size]
  show 11 + _ = _
  omega
theorem bt_of {s : ByteArray} {L : List Int} (h : bytesOf s = L) (i : Nat) : bt s (i : Int) = L.getD i 0 := by rw [bt_rd, h]
theorem sizeZ_of {k : Int} {v : List Int} (h : validB k v = true) : sizeZ k = (v.length : Int) := (valid_len h).1.symm
end Go.Proofs.YtbcphdbcdjdfpaaDoor.S
