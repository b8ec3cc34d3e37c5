/- The types of the program that the walk uses. No condition. -/
import Derived.Test.YtlpcphndgjibpaaDoorZGRxD
import Derived.Test.YtlpcphndgjibpaaDoorProg
import Derived.ProofKit
namespace Go.Proofs.YtlpcphndgjibpaaDoor.Rx
open Go Go.Proofs
def ti2 : TI := { kind := .int .i64, size := 1, bytes := 8, zero := [.int .i64 0] }
theorem tk2 : TIok Tryd.prog 2 ti2 := .of _ Tryd.underlying2 (by rfl) ((.int .i64 0)) (by kernel_rfl) rfl rfl rfl rfl (fun _ _ h => by cases h) (fun h => by cases h)
def ti3 : TI := { kind := .int .i64, size := 1, bytes := 8, zero := [.int .i64 0] }
theorem tk3 : TIok Tryd.prog 3 ti3 := .of _ Tryd.underlying3 (by rfl) ((.int .i64 0)) (by kernel_rfl) rfl rfl rfl rfl (fun _ _ h => by cases h) (fun h => by cases h)
def ti4 : TI := { kind := .bool, size := 1, bytes := 1, zero := [.bool false] }
theorem tk4 : TIok Tryd.prog 4 ti4 := .of _ Tryd.underlying4 (by rfl) ((.bool false)) (by kernel_rfl) rfl rfl rfl rfl (fun _ _ h => by cases h) (fun h => by cases h)
def ti5 : TI := { kind := .int .u8, size := 1, bytes := 1, zero := [.int .u8 0] }
theorem tk5 : TIok Tryd.prog 5 ti5 := .of _ Tryd.underlying5 (by rfl) ((.int .u8 0)) (by kernel_rfl) rfl rfl rfl rfl (fun _ _ h => by cases h) (fun h => by cases h)
def ti9 : TI := { kind := .str, size := 1, bytes := 16, zero := [.string ByteArray.empty] }
theorem tk9 : TIok Tryd.prog 9 ti9 := .of _ Tryd.underlying9 (by rfl) ((.string ByteArray.empty)) (by kernel_rfl) rfl rfl rfl rfl (fun _ _ h => by cases h) (fun h => by cases h)
def ti12 : TI := { kind := .int .u64, size := 1, bytes := 8, zero := [.int .u64 0] }
theorem tk12 : TIok Tryd.prog 12 ti12 := .of _ Tryd.underlying12 (by rfl) ((.int .u64 0)) (by kernel_rfl) rfl rfl rfl rfl (fun _ _ h => by cases h) (fun h => by cases h)
def ti20 : TI := { kind := .oth, size := 1, bytes := 16, zero := [.nilIface] }
theorem tk20 : TIok Tryd.prog 20 ti20 := .of _ Tryd.underlying20 ⟨(fun _ h => by cases h), (fun _ _ h => by cases h)⟩ ((.nilIface)) (by kernel_rfl) rfl rfl rfl rfl (fun _ _ h => by cases h) (fun h => by cases h)
def ti21 : TI := { kind := .int .i32, size := 1, bytes := 4, zero := [.int .i32 0] }
theorem tk21 : TIok Tryd.prog 21 ti21 := .of _ Tryd.underlying21 (by rfl) ((.int .i32 0)) (by kernel_rfl) rfl rfl rfl rfl (fun _ _ h => by cases h) (fun h => by cases h)
def ti22 : TI := { kind := .sli 36, size := 1, bytes := 24, zero := [.slice none 0 0] }
theorem tk22 : TIok Tryd.prog 22 ti22 := .of _ Tryd.underlying22 (by rfl) ((.slice none 0 0)) (by kernel_rfl) rfl rfl rfl rfl (fun _ _ h => by cases h) (fun h => by cases h)
def ti27 : TI := { kind := .sli 3, size := 1, bytes := 24, zero := [.slice none 0 0] }
theorem tk27 : TIok Tryd.prog 27 ti27 := .of _ Tryd.underlying27 (by rfl) ((.slice none 0 0)) (by kernel_rfl) rfl rfl rfl rfl (fun _ _ h => by cases h) (fun h => by cases h)
def ti32 : TI := { kind := .sli 38, size := 1, bytes := 24, zero := [.slice none 0 0] }
theorem tk32 : TIok Tryd.prog 32 ti32 := .of _ Tryd.underlying32 (by rfl) ((.slice none 0 0)) (by kernel_rfl) rfl rfl rfl rfl (fun _ _ h => by cases h) (fun h => by cases h)
def ti34 : TI := { kind := .sli 48, size := 1, bytes := 24, zero := [.slice none 0 0] }
theorem tk34 : TIok Tryd.prog 34 ti34 := .of _ Tryd.underlying34 (by rfl) ((.slice none 0 0)) (by kernel_rfl) rfl rfl rfl rfl (fun _ _ h => by cases h) (fun h => by cases h)
def ti35 : TI := { kind := .stc [(0, 34), (1, 9)], size := 2, bytes := 40, zero := [.slice none 0 0, .string ByteArray.empty] }
theorem tk35 : TIok Tryd.prog 35 ti35 := .of _ Tryd.underlying35 ⟨_, rfl, rfl⟩ (.agg ([.slice none 0 0, .string ByteArray.empty]).toArray) (by kernel_rfl) rfl rfl rfl rfl (fun _ _ h => by cases h) (fun h => by cases h)
def ti36 : TI := { kind := .stc [(0, 34), (1, 9)], size := 2, bytes := 40, zero := [.slice none 0 0, .string ByteArray.empty] }
theorem tk36 : TIok Tryd.prog 36 ti36 := .of _ Tryd.underlying36 ⟨_, rfl, rfl⟩ (.agg ([.slice none 0 0, .string ByteArray.empty]).toArray) (by kernel_rfl) rfl rfl rfl rfl (fun _ _ h => by cases h) (fun h => by cases h)
def ti37 : TI := { kind := .stc [(0, 3), (1, 3), (2, 3), (3, 3), (4, 3), (5, 36)], size := 7, bytes := 80, zero := [.int .i64 0, .int .i64 0, .int .i64 0, .int .i64 0, .int .i64 0, .slice none 0 0, .string ByteArray.empty] }
theorem tk37 : TIok Tryd.prog 37 ti37 := .of _ Tryd.underlying37 ⟨_, rfl, rfl⟩ (.agg ([.int .i64 0, .int .i64 0, .int .i64 0, .int .i64 0, .int .i64 0, .slice none 0 0, .string ByteArray.empty]).toArray) (by kernel_rfl) rfl rfl rfl rfl (fun _ _ h => by cases h) (fun h => by cases h)
def ti38 : TI := { kind := .stc [(0, 3), (1, 3), (2, 3), (3, 3), (4, 3), (5, 36)], size := 7, bytes := 80, zero := [.int .i64 0, .int .i64 0, .int .i64 0, .int .i64 0, .int .i64 0, .slice none 0 0, .string ByteArray.empty] }
theorem tk38 : TIok Tryd.prog 38 ti38 := .of _ Tryd.underlying38 ⟨_, rfl, rfl⟩ (.agg ([.int .i64 0, .int .i64 0, .int .i64 0, .int .i64 0, .int .i64 0, .slice none 0 0, .string ByteArray.empty]).toArray) (by kernel_rfl) rfl rfl rfl rfl (fun _ _ h => by cases h) (fun h => by cases h)
def ti43 : TI := { kind := .sli 34, size := 1, bytes := 24, zero := [.slice none 0 0] }
theorem tk43 : TIok Tryd.prog 43 ti43 := .of _ Tryd.underlying43 (by rfl) ((.slice none 0 0)) (by kernel_rfl) rfl rfl rfl rfl (fun _ _ h => by cases h) (fun h => by cases h)
def ti48 : TI := { kind := .int .u64, size := 1, bytes := 8, zero := [.int .u64 0] }
theorem tk48 : TIok Tryd.prog 48 ti48 := .of _ Tryd.underlying48 (by rfl) ((.int .u64 0)) (by kernel_rfl) rfl rfl rfl rfl (fun _ _ h => by cases h) (fun h => by cases h)
def ti54 : TI := { kind := .arr 32 3, size := 32, bytes := 256, zero := List.replicate 32 (.int .i64 0) }
theorem tk54 : TIok Tryd.prog 54 ti54 := .of _ Tryd.underlying54 (by rfl) (.agg (List.replicate 32 (.int .i64 0)).toArray) (by kernel_rfl) rfl rfl rfl rfl (fun _ _ h => by cases h; exact ⟨(.int .i64 0), by kernel_rfl, by rfl, by decide⟩) (fun h => by cases h)
def ti55 : TI := { kind := .sli 4, size := 1, bytes := 24, zero := [.slice none 0 0] }
theorem tk55 : TIok Tryd.prog 55 ti55 := .of _ Tryd.underlying55 (by rfl) ((.slice none 0 0)) (by kernel_rfl) rfl rfl rfl rfl (fun _ _ h => by cases h) (fun h => by cases h)
def ti65 : TI := { kind := .int .u64, size := 1, bytes := 8, zero := [.int .u64 0] }
theorem tk65 : TIok Tryd.prog 65 ti65 := .of _ Tryd.underlying65 (by rfl) ((.int .u64 0)) (by kernel_rfl) rfl rfl rfl rfl (fun _ _ h => by cases h) (fun h => by cases h)
def ti68 : TI := { kind := .stc [(0, 3), (1, 3), (2, 3), (3, 3), (4, 3)], size := 5, bytes := 40, zero := [.int .i64 0, .int .i64 0, .int .i64 0, .int .i64 0, .int .i64 0], eqs := true }
theorem tk68 : TIok Tryd.prog 68 ti68 := .of _ Tryd.underlying68 ⟨_, rfl, rfl⟩ (.agg ([.int .i64 0, .int .i64 0, .int .i64 0, .int .i64 0, .int .i64 0]).toArray) (by kernel_rfl) rfl rfl rfl rfl (fun _ _ h => by cases h) (fun _ => ⟨by kernel_rfl, by kernel_rfl, _, Tryd.underlying68, by decide⟩)
def ti69 : TI := { kind := .stc [(0, 3), (1, 3), (2, 3), (3, 3), (4, 3)], size := 5, bytes := 40, zero := [.int .i64 0, .int .i64 0, .int .i64 0, .int .i64 0, .int .i64 0], eqs := true }
theorem tk69 : TIok Tryd.prog 69 ti69 := .of _ Tryd.underlying69 ⟨_, rfl, rfl⟩ (.agg ([.int .i64 0, .int .i64 0, .int .i64 0, .int .i64 0, .int .i64 0]).toArray) (by kernel_rfl) rfl rfl rfl rfl (fun _ _ h => by cases h) (fun _ => ⟨by kernel_rfl, by kernel_rfl, _, Tryd.underlying69, by decide⟩)
def ti71 : TI := { kind := .sli 5, size := 1, bytes := 24, zero := [.slice none 0 0] }
theorem tk71 : TIok Tryd.prog 71 ti71 := .of _ Tryd.underlying71 (by rfl) ((.slice none 0 0)) (by kernel_rfl) rfl rfl rfl rfl (fun _ _ h => by cases h) (fun h => by cases h)
def ti82 : TI := { kind := .arr 64 5, size := 64, bytes := 64, zero := List.replicate 64 (.int .u8 0) }
theorem tk82 : TIok Tryd.prog 82 ti82 := .of _ Tryd.underlying82 (by rfl) (.agg (List.replicate 64 (.int .u8 0)).toArray) (by kernel_rfl) rfl rfl rfl rfl (fun _ _ h => by cases h; exact ⟨(.int .u8 0), by kernel_rfl, by rfl, by decide⟩) (fun h => by cases h)
def ti89 : TI := { kind := .stc [(0, 88)], size := 0, bytes := 0, zero := [] }
theorem tk89 : TIok Tryd.prog 89 ti89 := .of _ Tryd.underlying89 ⟨_, rfl, rfl⟩ (.agg ([]).toArray) (by kernel_rfl) rfl rfl rfl rfl (fun _ _ h => by cases h) (fun h => by cases h)
def ti92 : TI := { kind := .int .u32, size := 1, bytes := 4, zero := [.int .u32 0] }
theorem tk92 : TIok Tryd.prog 92 ti92 := .of _ Tryd.underlying92 (by rfl) ((.int .u32 0)) (by kernel_rfl) rfl rfl rfl rfl (fun _ _ h => by cases h) (fun h => by cases h)
def ti95 : TI := { kind := .oth, size := 1, bytes := 8, zero := [.nilFunc] }
theorem tk95 : TIok Tryd.prog 95 ti95 := .of _ Tryd.underlying95 ⟨(fun _ h => by cases h), (fun _ _ h => by cases h)⟩ ((.nilFunc)) (by kernel_rfl) rfl rfl rfl rfl (fun _ _ h => by cases h) (fun h => by cases h)
def ti96 : TI := { kind := .ptr, size := 1, bytes := 8, zero := [.pointer none] }
theorem tk96 : TIok Tryd.prog 96 ti96 := .of _ Tryd.underlying96 ⟨_, rfl⟩ ((.pointer none)) (by kernel_rfl) rfl rfl rfl rfl (fun _ _ h => by cases h) (fun h => by cases h)
def tl : List (Nat × TI) := [(2, ti2), (3, ti3), (4, ti4), (5, ti5), (9, ti9), (12, ti12), (20, ti20), (21, ti21), (22, ti22), (27, ti27), (32, ti32), (34, ti34), (35, ti35), (36, ti36), (37, ti37), (38, ti38), (43, ti43), (48, ti48), (54, ti54), (55, ti55), (65, ti65), (68, ti68), (69, ti69), (71, ti71), (82, ti82), (89, ti89), (92, ti92), (95, ti95), (96, ti96)]
def tt : TT := ttOf tl
theorem ttok : TTok Tryd.prog tt := ttok_of (by
  unfold tl
  simp only [List.forall_mem_cons]
  exact ⟨tk2, tk3, tk4, tk5, tk9, tk12, tk20, tk21, tk22, tk27, tk32, tk34, tk35, tk36, tk37, tk38, tk43, tk48, tk54, tk55, tk65, tk68, tk69, tk71, tk82, tk89, tk92, tk95, tk96, fun _ h => by cases h⟩)
end Go.Proofs.YtlpcphndgjibpaaDoor.Rx
