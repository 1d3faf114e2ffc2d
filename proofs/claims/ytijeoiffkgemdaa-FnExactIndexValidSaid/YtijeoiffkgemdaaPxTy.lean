/- Facts on the types of this seat, each reckoned by the kernel. -/
import Derived.Test.YtijeoiffkgemdaaProg
import Derived.Test.YtijeoiffkgemdaaPxS
namespace Go.Proofs.Ytijeoiffkgemdaa
open Go.RowKit
set_option linter.all false
theorem sz_2 : tySize Try.prog 2 = some 1 := by kernel_rfl
theorem ag_2 : tyAgg Try.prog 2 = some false := by kernel_rfl
theorem by_2 : tyBytes Try.prog 2 = some 8 := by kernel_rfl
theorem ze_2 : zeroOf Try.prog 2 = some (.int .i64 0) := by kernel_rfl
theorem un_2 : Try.prog.underlying 2 = some (.int .i64) := by kernel_rfl
theorem oz_2 : ofVal (.int .i64 0) = .val (.int .i64 0) := rfl
theorem ea_2 (s : AS) (ρ : Operand → PV) : evEff Try.prog s ρ (.alloc 2) = some (.own s.nx 1 0 0, upd s.ob s.nx (some (2, 1, [.val (.int .i64 0)])), s.nx + 1) := ea_of ze_2 (by kernel_rfl) rfl rfl s ρ
theorem bs_2 : isByteSlice Try.prog 2 = false := by kernel_rfl
theorem is_2 : isStr Try.prog 2 = false := by kernel_rfl
theorem sz_3 : tySize Try.prog 3 = some 1 := by kernel_rfl
theorem ag_3 : tyAgg Try.prog 3 = some false := by kernel_rfl
theorem by_3 : tyBytes Try.prog 3 = some 8 := by kernel_rfl
theorem ze_3 : zeroOf Try.prog 3 = some (.int .i64 0) := by kernel_rfl
theorem un_3 : Try.prog.underlying 3 = some (.int .i64) := by kernel_rfl
theorem oz_3 : ofVal (.int .i64 0) = .val (.int .i64 0) := rfl
theorem ea_3 (s : AS) (ρ : Operand → PV) : evEff Try.prog s ρ (.alloc 3) = some (.own s.nx 1 0 0, upd s.ob s.nx (some (3, 1, [.val (.int .i64 0)])), s.nx + 1) := ea_of ze_3 (by kernel_rfl) rfl rfl s ρ
theorem bs_3 : isByteSlice Try.prog 3 = false := by kernel_rfl
theorem is_3 : isStr Try.prog 3 = false := by kernel_rfl
theorem sz_4 : tySize Try.prog 4 = some 1 := by kernel_rfl
theorem ag_4 : tyAgg Try.prog 4 = some false := by kernel_rfl
theorem by_4 : tyBytes Try.prog 4 = some 1 := by kernel_rfl
theorem ze_4 : zeroOf Try.prog 4 = some (.bool false) := by kernel_rfl
theorem un_4 : Try.prog.underlying 4 = some .bool := by kernel_rfl
theorem bqe_4 {x y : Operand} {a b : Bool} : binP Try.prog .eql 4 x y (some (.bool a)) (some (.bool b)) = some (.val (.bool (a == b))) := bp_eqlB un_4
theorem bqn_4 {x y : Operand} {a b : Bool} : binP Try.prog .neq 4 x y (some (.bool a)) (some (.bool b)) = some (.val (.bool (!(a == b)))) := bp_neqB un_4
theorem oz_4 : ofVal (.bool false) = .val (.bool false) := rfl
theorem ea_4 (s : AS) (ρ : Operand → PV) : evEff Try.prog s ρ (.alloc 4) = some (.own s.nx 1 0 0, upd s.ob s.nx (some (4, 1, [.val (.bool false)])), s.nx + 1) := ea_of ze_4 (by kernel_rfl) rfl rfl s ρ
theorem bs_4 : isByteSlice Try.prog 4 = false := by kernel_rfl
theorem is_4 : isStr Try.prog 4 = false := by kernel_rfl
theorem sz_5 : tySize Try.prog 5 = some 1 := by kernel_rfl
theorem ag_5 : tyAgg Try.prog 5 = some false := by kernel_rfl
theorem by_5 : tyBytes Try.prog 5 = some 1 := by kernel_rfl
theorem ze_5 : zeroOf Try.prog 5 = some (.int .u8 0) := by kernel_rfl
theorem un_5 : Try.prog.underlying 5 = some (.int .u8) := by kernel_rfl
theorem oz_5 : ofVal (.int .u8 0) = .val (.int .u8 0) := rfl
theorem ea_5 (s : AS) (ρ : Operand → PV) : evEff Try.prog s ρ (.alloc 5) = some (.own s.nx 1 0 0, upd s.ob s.nx (some (5, 1, [.val (.int .u8 0)])), s.nx + 1) := ea_of ze_5 (by kernel_rfl) rfl rfl s ρ
theorem bs_5 : isByteSlice Try.prog 5 = false := by kernel_rfl
theorem is_5 : isStr Try.prog 5 = false := by kernel_rfl
theorem sz_7 : tySize Try.prog 7 = some 4 := by kernel_rfl
theorem ag_7 : tyAgg Try.prog 7 = some true := by kernel_rfl
theorem by_7 : tyBytes Try.prog 7 = some 24 := by kernel_rfl
theorem ze_7 : zeroOf Try.prog 7 = some (.agg #[.int .i64 0, .int .i64 0, .bool false, .int .u8 0]) := by kernel_rfl
theorem fo_7_0 : fieldOff Try.prog 7 0 = some 0 := by kernel_rfl
theorem fo_7_1 : fieldOff Try.prog 7 1 = some 1 := by kernel_rfl
theorem fo_7_2 : fieldOff Try.prog 7 2 = some 2 := by kernel_rfl
theorem fo_7_3 : fieldOff Try.prog 7 3 = some 3 := by kernel_rfl
theorem pl_7 : structPlaces Try.prog 7 = some #[(0, 1), (1, 1), (2, 1), (3, 1)] := by kernel_rfl
theorem oz_7 : ofVal (.agg #[.int .i64 0, .int .i64 0, .bool false, .int .u8 0]) = .agg [.val (.int .i64 0), .val (.int .i64 0), .val (.bool false), .val (.int .u8 0)] := rfl
theorem ea_7 (s : AS) (ρ : Operand → PV) : evEff Try.prog s ρ (.alloc 7) = some (.own s.nx 4 0 0, upd s.ob s.nx (some (7, 4, [.agg [.val (.int .i64 0), .val (.int .i64 0), .val (.bool false), .val (.int .u8 0)]])), s.nx + 1) := ea_of ze_7 (by kernel_rfl) rfl rfl s ρ
theorem bs_7 : isByteSlice Try.prog 7 = false := by kernel_rfl
theorem is_7 : isStr Try.prog 7 = false := by kernel_rfl
theorem sz_9 : tySize Try.prog 9 = some 1 := by kernel_rfl
theorem ag_9 : tyAgg Try.prog 9 = some false := by kernel_rfl
theorem by_9 : tyBytes Try.prog 9 = some 16 := by kernel_rfl
theorem ze_9 : zeroOf Try.prog 9 = some (.string ByteArray.empty) := by kernel_rfl
theorem un_9 : Try.prog.underlying 9 = some .string := by kernel_rfl
theorem lps_9 {ty : Nat} {s : ByteArray} : lenP Try.prog 9 ty (.val (.string s)) = some (.val (.int .i64 s.size)) := lp_str un_9
theorem ixs_9 {s : ByteArray} {i : Int} (h0 : 0 ≤ i) (h1 : i < s.size) : idxP Try.prog 9 (some (.string s)) (some (.int .i64 i)) = some (.val (.int .u8 (at8 s i.toNat))) := ix_str un_9 h0 h1
theorem oz_9 : ofVal (.string ByteArray.empty) = .val (.string ByteArray.empty) := rfl
theorem ea_9 (s : AS) (ρ : Operand → PV) : evEff Try.prog s ρ (.alloc 9) = some (.own s.nx 1 0 0, upd s.ob s.nx (some (9, 1, [.val (.string ByteArray.empty)])), s.nx + 1) := ea_of ze_9 (by kernel_rfl) rfl rfl s ρ
theorem bs_9 : isByteSlice Try.prog 9 = false := by kernel_rfl
theorem is_9 : isStr Try.prog 9 = true := by kernel_rfl
theorem sz_12 : tySize Try.prog 12 = some 1 := by kernel_rfl
theorem ag_12 : tyAgg Try.prog 12 = some false := by kernel_rfl
theorem by_12 : tyBytes Try.prog 12 = some 8 := by kernel_rfl
theorem ze_12 : zeroOf Try.prog 12 = some (.int .u64 0) := by kernel_rfl
theorem un_12 : Try.prog.underlying 12 = some (.int .u64) := by kernel_rfl
theorem oz_12 : ofVal (.int .u64 0) = .val (.int .u64 0) := rfl
theorem ea_12 (s : AS) (ρ : Operand → PV) : evEff Try.prog s ρ (.alloc 12) = some (.own s.nx 1 0 0, upd s.ob s.nx (some (12, 1, [.val (.int .u64 0)])), s.nx + 1) := ea_of ze_12 (by kernel_rfl) rfl rfl s ρ
theorem bs_12 : isByteSlice Try.prog 12 = false := by kernel_rfl
theorem is_12 : isStr Try.prog 12 = false := by kernel_rfl
theorem sz_13 : tySize Try.prog 13 = some 2 := by kernel_rfl
theorem ag_13 : tyAgg Try.prog 13 = some true := by kernel_rfl
theorem by_13 : tyBytes Try.prog 13 = some 24 := by kernel_rfl
theorem ze_13 : zeroOf Try.prog 13 = some (.agg #[.string ByteArray.empty, .int .u64 0]) := by kernel_rfl
theorem fo_13_0 : fieldOff Try.prog 13 0 = some 0 := by kernel_rfl
theorem fo_13_1 : fieldOff Try.prog 13 1 = some 1 := by kernel_rfl
theorem pl_13 : structPlaces Try.prog 13 = some #[(0, 1), (1, 1)] := by kernel_rfl
theorem oz_13 : ofVal (.agg #[.string ByteArray.empty, .int .u64 0]) = .agg [.val (.string ByteArray.empty), .val (.int .u64 0)] := rfl
theorem ea_13 (s : AS) (ρ : Operand → PV) : evEff Try.prog s ρ (.alloc 13) = some (.own s.nx 2 0 0, upd s.ob s.nx (some (13, 2, [.agg [.val (.string ByteArray.empty), .val (.int .u64 0)]])), s.nx + 1) := ea_of ze_13 (by kernel_rfl) rfl rfl s ρ
theorem bs_13 : isByteSlice Try.prog 13 = false := by kernel_rfl
theorem is_13 : isStr Try.prog 13 = false := by kernel_rfl
theorem sz_21 : tySize Try.prog 21 = some 1 := by kernel_rfl
theorem ag_21 : tyAgg Try.prog 21 = some false := by kernel_rfl
theorem by_21 : tyBytes Try.prog 21 = some 4 := by kernel_rfl
theorem ze_21 : zeroOf Try.prog 21 = some (.int .i32 0) := by kernel_rfl
theorem un_21 : Try.prog.underlying 21 = some (.int .i32) := by kernel_rfl
theorem oz_21 : ofVal (.int .i32 0) = .val (.int .i32 0) := rfl
theorem ea_21 (s : AS) (ρ : Operand → PV) : evEff Try.prog s ρ (.alloc 21) = some (.own s.nx 1 0 0, upd s.ob s.nx (some (21, 1, [.val (.int .i32 0)])), s.nx + 1) := ea_of ze_21 (by kernel_rfl) rfl rfl s ρ
theorem bs_21 : isByteSlice Try.prog 21 = false := by kernel_rfl
theorem is_21 : isStr Try.prog 21 = false := by kernel_rfl
theorem sz_22 : tySize Try.prog 22 = some 4 := by kernel_rfl
theorem ag_22 : tyAgg Try.prog 22 = some true := by kernel_rfl
theorem by_22 : tyBytes Try.prog 22 = some 32 := by kernel_rfl
theorem ze_22 : zeroOf Try.prog 22 = some (.agg #[.int .i64 0, .int .i64 0, .int .i64 0, .int .i64 0]) := by kernel_rfl
theorem fo_22_0 : fieldOff Try.prog 22 0 = some 0 := by kernel_rfl
theorem fo_22_1 : fieldOff Try.prog 22 1 = some 1 := by kernel_rfl
theorem fo_22_2 : fieldOff Try.prog 22 2 = some 2 := by kernel_rfl
theorem fo_22_3 : fieldOff Try.prog 22 3 = some 3 := by kernel_rfl
theorem pl_22 : structPlaces Try.prog 22 = some #[(0, 1), (1, 1), (2, 1), (3, 1)] := by kernel_rfl
theorem oz_22 : ofVal (.agg #[.int .i64 0, .int .i64 0, .int .i64 0, .int .i64 0]) = .agg [.val (.int .i64 0), .val (.int .i64 0), .val (.int .i64 0), .val (.int .i64 0)] := rfl
theorem ea_22 (s : AS) (ρ : Operand → PV) : evEff Try.prog s ρ (.alloc 22) = some (.own s.nx 4 0 0, upd s.ob s.nx (some (22, 4, [.agg [.val (.int .i64 0), .val (.int .i64 0), .val (.int .i64 0), .val (.int .i64 0)]])), s.nx + 1) := ea_of ze_22 (by kernel_rfl) rfl rfl s ρ
theorem bs_22 : isByteSlice Try.prog 22 = false := by kernel_rfl
theorem is_22 : isStr Try.prog 22 = false := by kernel_rfl
theorem sz_23 : tySize Try.prog 23 = some 4 := by kernel_rfl
theorem ag_23 : tyAgg Try.prog 23 = some true := by kernel_rfl
theorem by_23 : tyBytes Try.prog 23 = some 32 := by kernel_rfl
theorem ze_23 : zeroOf Try.prog 23 = some (.agg #[.int .i64 0, .int .i64 0, .int .i64 0, .int .i64 0]) := by kernel_rfl
theorem fo_23_0 : fieldOff Try.prog 23 0 = some 0 := by kernel_rfl
theorem fo_23_1 : fieldOff Try.prog 23 1 = some 1 := by kernel_rfl
theorem fo_23_2 : fieldOff Try.prog 23 2 = some 2 := by kernel_rfl
theorem fo_23_3 : fieldOff Try.prog 23 3 = some 3 := by kernel_rfl
theorem pl_23 : structPlaces Try.prog 23 = some #[(0, 1), (1, 1), (2, 1), (3, 1)] := by kernel_rfl
theorem oz_23 : ofVal (.agg #[.int .i64 0, .int .i64 0, .int .i64 0, .int .i64 0]) = .agg [.val (.int .i64 0), .val (.int .i64 0), .val (.int .i64 0), .val (.int .i64 0)] := rfl
theorem ea_23 (s : AS) (ρ : Operand → PV) : evEff Try.prog s ρ (.alloc 23) = some (.own s.nx 4 0 0, upd s.ob s.nx (some (23, 4, [.agg [.val (.int .i64 0), .val (.int .i64 0), .val (.int .i64 0), .val (.int .i64 0)]])), s.nx + 1) := ea_of ze_23 (by kernel_rfl) rfl rfl s ρ
theorem bs_23 : isByteSlice Try.prog 23 = false := by kernel_rfl
theorem is_23 : isStr Try.prog 23 = false := by kernel_rfl
theorem sz_25 : tySize Try.prog 25 = some 4 := by kernel_rfl
theorem ag_25 : tyAgg Try.prog 25 = some true := by kernel_rfl
theorem by_25 : tyBytes Try.prog 25 = some 32 := by kernel_rfl
theorem ze_25 : zeroOf Try.prog 25 = some (.agg #[.int .i64 0, .int .i64 0, .int .i64 0, .int .i64 0]) := by kernel_rfl
theorem fo_25_0 : fieldOff Try.prog 25 0 = some 0 := by kernel_rfl
theorem fo_25_1 : fieldOff Try.prog 25 1 = some 1 := by kernel_rfl
theorem fo_25_2 : fieldOff Try.prog 25 2 = some 2 := by kernel_rfl
theorem fo_25_3 : fieldOff Try.prog 25 3 = some 3 := by kernel_rfl
theorem pl_25 : structPlaces Try.prog 25 = some #[(0, 1), (1, 1), (2, 1), (3, 1)] := by kernel_rfl
theorem oz_25 : ofVal (.agg #[.int .i64 0, .int .i64 0, .int .i64 0, .int .i64 0]) = .agg [.val (.int .i64 0), .val (.int .i64 0), .val (.int .i64 0), .val (.int .i64 0)] := rfl
theorem ea_25 (s : AS) (ρ : Operand → PV) : evEff Try.prog s ρ (.alloc 25) = some (.own s.nx 4 0 0, upd s.ob s.nx (some (25, 4, [.agg [.val (.int .i64 0), .val (.int .i64 0), .val (.int .i64 0), .val (.int .i64 0)]])), s.nx + 1) := ea_of ze_25 (by kernel_rfl) rfl rfl s ρ
theorem bs_25 : isByteSlice Try.prog 25 = false := by kernel_rfl
theorem is_25 : isStr Try.prog 25 = false := by kernel_rfl
theorem sz_47 : tySize Try.prog 47 = some 2 := by kernel_rfl
theorem ag_47 : tyAgg Try.prog 47 = some true := by kernel_rfl
theorem by_47 : tyBytes Try.prog 47 = some 32 := by kernel_rfl
theorem ze_47 : zeroOf Try.prog 47 = some (.agg #[.int .i64 0, .slice none 0 0]) := by kernel_rfl
theorem fo_47_0 : fieldOff Try.prog 47 0 = some 0 := by kernel_rfl
theorem fo_47_1 : fieldOff Try.prog 47 1 = some 1 := by kernel_rfl
theorem pl_47 : structPlaces Try.prog 47 = some #[(0, 1), (1, 1)] := by kernel_rfl
theorem oz_47 : ofVal (.agg #[.int .i64 0, .slice none 0 0]) = .agg [.val (.int .i64 0), .val (.slice none 0 0)] := rfl
theorem ea_47 (s : AS) (ρ : Operand → PV) : evEff Try.prog s ρ (.alloc 47) = some (.own s.nx 2 0 0, upd s.ob s.nx (some (47, 2, [.agg [.val (.int .i64 0), .val (.slice none 0 0)]])), s.nx + 1) := ea_of ze_47 (by kernel_rfl) rfl rfl s ρ
theorem bs_47 : isByteSlice Try.prog 47 = false := by kernel_rfl
theorem is_47 : isStr Try.prog 47 = false := by kernel_rfl
theorem sz_48 : tySize Try.prog 48 = some 2 := by kernel_rfl
theorem ag_48 : tyAgg Try.prog 48 = some true := by kernel_rfl
theorem by_48 : tyBytes Try.prog 48 = some 32 := by kernel_rfl
theorem ze_48 : zeroOf Try.prog 48 = some (.agg #[.int .i64 0, .slice none 0 0]) := by kernel_rfl
theorem fo_48_0 : fieldOff Try.prog 48 0 = some 0 := by kernel_rfl
theorem fo_48_1 : fieldOff Try.prog 48 1 = some 1 := by kernel_rfl
theorem pl_48 : structPlaces Try.prog 48 = some #[(0, 1), (1, 1)] := by kernel_rfl
theorem oz_48 : ofVal (.agg #[.int .i64 0, .slice none 0 0]) = .agg [.val (.int .i64 0), .val (.slice none 0 0)] := rfl
theorem ea_48 (s : AS) (ρ : Operand → PV) : evEff Try.prog s ρ (.alloc 48) = some (.own s.nx 2 0 0, upd s.ob s.nx (some (48, 2, [.agg [.val (.int .i64 0), .val (.slice none 0 0)]])), s.nx + 1) := ea_of ze_48 (by kernel_rfl) rfl rfl s ρ
theorem bs_48 : isByteSlice Try.prog 48 = false := by kernel_rfl
theorem is_48 : isStr Try.prog 48 = false := by kernel_rfl
theorem sz_51 : tySize Try.prog 51 = some 2 := by kernel_rfl
theorem ag_51 : tyAgg Try.prog 51 = some true := by kernel_rfl
theorem by_51 : tyBytes Try.prog 51 = some 32 := by kernel_rfl
theorem ze_51 : zeroOf Try.prog 51 = some (.agg #[.int .i64 0, .slice none 0 0]) := by kernel_rfl
theorem fo_51_0 : fieldOff Try.prog 51 0 = some 0 := by kernel_rfl
theorem fo_51_1 : fieldOff Try.prog 51 1 = some 1 := by kernel_rfl
theorem pl_51 : structPlaces Try.prog 51 = some #[(0, 1), (1, 1)] := by kernel_rfl
theorem oz_51 : ofVal (.agg #[.int .i64 0, .slice none 0 0]) = .agg [.val (.int .i64 0), .val (.slice none 0 0)] := rfl
theorem ea_51 (s : AS) (ρ : Operand → PV) : evEff Try.prog s ρ (.alloc 51) = some (.own s.nx 2 0 0, upd s.ob s.nx (some (51, 2, [.agg [.val (.int .i64 0), .val (.slice none 0 0)]])), s.nx + 1) := ea_of ze_51 (by kernel_rfl) rfl rfl s ρ
theorem bs_51 : isByteSlice Try.prog 51 = false := by kernel_rfl
theorem is_51 : isStr Try.prog 51 = false := by kernel_rfl
theorem sz_60 : tySize Try.prog 60 = some 2 := by kernel_rfl
theorem ag_60 : tyAgg Try.prog 60 = some true := by kernel_rfl
theorem by_60 : tyBytes Try.prog 60 = some 24 := by kernel_rfl
theorem ze_60 : zeroOf Try.prog 60 = some (.agg #[.string ByteArray.empty, .int .i64 0]) := by kernel_rfl
theorem fo_60_0 : fieldOff Try.prog 60 0 = some 0 := by kernel_rfl
theorem fo_60_1 : fieldOff Try.prog 60 1 = some 1 := by kernel_rfl
theorem pl_60 : structPlaces Try.prog 60 = some #[(0, 1), (1, 1)] := by kernel_rfl
theorem oz_60 : ofVal (.agg #[.string ByteArray.empty, .int .i64 0]) = .agg [.val (.string ByteArray.empty), .val (.int .i64 0)] := rfl
theorem ea_60 (s : AS) (ρ : Operand → PV) : evEff Try.prog s ρ (.alloc 60) = some (.own s.nx 2 0 0, upd s.ob s.nx (some (60, 2, [.agg [.val (.string ByteArray.empty), .val (.int .i64 0)]])), s.nx + 1) := ea_of ze_60 (by kernel_rfl) rfl rfl s ρ
theorem bs_60 : isByteSlice Try.prog 60 = false := by kernel_rfl
theorem is_60 : isStr Try.prog 60 = false := by kernel_rfl
theorem sz_61 : tySize Try.prog 61 = some 2 := by kernel_rfl
theorem ag_61 : tyAgg Try.prog 61 = some true := by kernel_rfl
theorem by_61 : tyBytes Try.prog 61 = some 24 := by kernel_rfl
theorem ze_61 : zeroOf Try.prog 61 = some (.agg #[.string ByteArray.empty, .int .i64 0]) := by kernel_rfl
theorem fo_61_0 : fieldOff Try.prog 61 0 = some 0 := by kernel_rfl
theorem fo_61_1 : fieldOff Try.prog 61 1 = some 1 := by kernel_rfl
theorem pl_61 : structPlaces Try.prog 61 = some #[(0, 1), (1, 1)] := by kernel_rfl
theorem oz_61 : ofVal (.agg #[.string ByteArray.empty, .int .i64 0]) = .agg [.val (.string ByteArray.empty), .val (.int .i64 0)] := rfl
theorem ea_61 (s : AS) (ρ : Operand → PV) : evEff Try.prog s ρ (.alloc 61) = some (.own s.nx 2 0 0, upd s.ob s.nx (some (61, 2, [.agg [.val (.string ByteArray.empty), .val (.int .i64 0)]])), s.nx + 1) := ea_of ze_61 (by kernel_rfl) rfl rfl s ρ
theorem bs_61 : isByteSlice Try.prog 61 = false := by kernel_rfl
theorem is_61 : isStr Try.prog 61 = false := by kernel_rfl
theorem sz_76 : tySize Try.prog 76 = some 4 := by kernel_rfl
theorem ag_76 : tyAgg Try.prog 76 = some true := by kernel_rfl
theorem by_76 : tyBytes Try.prog 76 = some 32 := by kernel_rfl
theorem ze_76 : zeroOf Try.prog 76 = some (.agg #[.int .i64 0, .int .i64 0, .int .i64 0, .int .i64 0]) := by kernel_rfl
theorem fo_76_0 : fieldOff Try.prog 76 0 = some 0 := by kernel_rfl
theorem fo_76_1 : fieldOff Try.prog 76 1 = some 1 := by kernel_rfl
theorem fo_76_2 : fieldOff Try.prog 76 2 = some 2 := by kernel_rfl
theorem fo_76_3 : fieldOff Try.prog 76 3 = some 3 := by kernel_rfl
theorem pl_76 : structPlaces Try.prog 76 = some #[(0, 1), (1, 1), (2, 1), (3, 1)] := by kernel_rfl
theorem oz_76 : ofVal (.agg #[.int .i64 0, .int .i64 0, .int .i64 0, .int .i64 0]) = .agg [.val (.int .i64 0), .val (.int .i64 0), .val (.int .i64 0), .val (.int .i64 0)] := rfl
theorem ea_76 (s : AS) (ρ : Operand → PV) : evEff Try.prog s ρ (.alloc 76) = some (.own s.nx 4 0 0, upd s.ob s.nx (some (76, 4, [.agg [.val (.int .i64 0), .val (.int .i64 0), .val (.int .i64 0), .val (.int .i64 0)]])), s.nx + 1) := ea_of ze_76 (by kernel_rfl) rfl rfl s ρ
theorem bs_76 : isByteSlice Try.prog 76 = false := by kernel_rfl
theorem is_76 : isStr Try.prog 76 = false := by kernel_rfl
theorem sz_77 : tySize Try.prog 77 = some 4 := by kernel_rfl
theorem ag_77 : tyAgg Try.prog 77 = some true := by kernel_rfl
theorem by_77 : tyBytes Try.prog 77 = some 32 := by kernel_rfl
theorem ze_77 : zeroOf Try.prog 77 = some (.agg #[.int .i64 0, .int .i64 0, .int .i64 0, .int .i64 0]) := by kernel_rfl
theorem fo_77_0 : fieldOff Try.prog 77 0 = some 0 := by kernel_rfl
theorem fo_77_1 : fieldOff Try.prog 77 1 = some 1 := by kernel_rfl
theorem fo_77_2 : fieldOff Try.prog 77 2 = some 2 := by kernel_rfl
theorem fo_77_3 : fieldOff Try.prog 77 3 = some 3 := by kernel_rfl
theorem pl_77 : structPlaces Try.prog 77 = some #[(0, 1), (1, 1), (2, 1), (3, 1)] := by kernel_rfl
theorem oz_77 : ofVal (.agg #[.int .i64 0, .int .i64 0, .int .i64 0, .int .i64 0]) = .agg [.val (.int .i64 0), .val (.int .i64 0), .val (.int .i64 0), .val (.int .i64 0)] := rfl
theorem ea_77 (s : AS) (ρ : Operand → PV) : evEff Try.prog s ρ (.alloc 77) = some (.own s.nx 4 0 0, upd s.ob s.nx (some (77, 4, [.agg [.val (.int .i64 0), .val (.int .i64 0), .val (.int .i64 0), .val (.int .i64 0)]])), s.nx + 1) := ea_of ze_77 (by kernel_rfl) rfl rfl s ρ
theorem bs_77 : isByteSlice Try.prog 77 = false := by kernel_rfl
theorem is_77 : isStr Try.prog 77 = false := by kernel_rfl
theorem sz_94 : tySize Try.prog 94 = some 2 := by kernel_rfl
theorem ag_94 : tyAgg Try.prog 94 = some true := by kernel_rfl
theorem by_94 : tyBytes Try.prog 94 = some 24 := by kernel_rfl
theorem ze_94 : zeroOf Try.prog 94 = some (.agg #[.string ByteArray.empty, .int .i64 0]) := by kernel_rfl
theorem fo_94_0 : fieldOff Try.prog 94 0 = some 0 := by kernel_rfl
theorem fo_94_1 : fieldOff Try.prog 94 1 = some 1 := by kernel_rfl
theorem pl_94 : structPlaces Try.prog 94 = some #[(0, 1), (1, 1)] := by kernel_rfl
theorem oz_94 : ofVal (.agg #[.string ByteArray.empty, .int .i64 0]) = .agg [.val (.string ByteArray.empty), .val (.int .i64 0)] := rfl
theorem ea_94 (s : AS) (ρ : Operand → PV) : evEff Try.prog s ρ (.alloc 94) = some (.own s.nx 2 0 0, upd s.ob s.nx (some (94, 2, [.agg [.val (.string ByteArray.empty), .val (.int .i64 0)]])), s.nx + 1) := ea_of ze_94 (by kernel_rfl) rfl rfl s ρ
theorem bs_94 : isByteSlice Try.prog 94 = false := by kernel_rfl
theorem is_94 : isStr Try.prog 94 = false := by kernel_rfl
theorem sz_97 : tySize Try.prog 97 = some 2 := by kernel_rfl
theorem ag_97 : tyAgg Try.prog 97 = some true := by kernel_rfl
theorem by_97 : tyBytes Try.prog 97 = some 32 := by kernel_rfl
theorem ze_97 : zeroOf Try.prog 97 = some (.agg #[.slice none 0 0, .int .i64 0]) := by kernel_rfl
theorem fo_97_0 : fieldOff Try.prog 97 0 = some 0 := by kernel_rfl
theorem fo_97_1 : fieldOff Try.prog 97 1 = some 1 := by kernel_rfl
theorem pl_97 : structPlaces Try.prog 97 = some #[(0, 1), (1, 1)] := by kernel_rfl
theorem oz_97 : ofVal (.agg #[.slice none 0 0, .int .i64 0]) = .agg [.val (.slice none 0 0), .val (.int .i64 0)] := rfl
theorem ea_97 (s : AS) (ρ : Operand → PV) : evEff Try.prog s ρ (.alloc 97) = some (.own s.nx 2 0 0, upd s.ob s.nx (some (97, 2, [.agg [.val (.slice none 0 0), .val (.int .i64 0)]])), s.nx + 1) := ea_of ze_97 (by kernel_rfl) rfl rfl s ρ
theorem bs_97 : isByteSlice Try.prog 97 = false := by kernel_rfl
theorem is_97 : isStr Try.prog 97 = false := by kernel_rfl
theorem sz_98 : tySize Try.prog 98 = some 2 := by kernel_rfl
theorem ag_98 : tyAgg Try.prog 98 = some true := by kernel_rfl
theorem by_98 : tyBytes Try.prog 98 = some 32 := by kernel_rfl
theorem ze_98 : zeroOf Try.prog 98 = some (.agg #[.slice none 0 0, .int .i64 0]) := by kernel_rfl
theorem fo_98_0 : fieldOff Try.prog 98 0 = some 0 := by kernel_rfl
theorem fo_98_1 : fieldOff Try.prog 98 1 = some 1 := by kernel_rfl
theorem pl_98 : structPlaces Try.prog 98 = some #[(0, 1), (1, 1)] := by kernel_rfl
theorem oz_98 : ofVal (.agg #[.slice none 0 0, .int .i64 0]) = .agg [.val (.slice none 0 0), .val (.int .i64 0)] := rfl
theorem ea_98 (s : AS) (ρ : Operand → PV) : evEff Try.prog s ρ (.alloc 98) = some (.own s.nx 2 0 0, upd s.ob s.nx (some (98, 2, [.agg [.val (.slice none 0 0), .val (.int .i64 0)]])), s.nx + 1) := ea_of ze_98 (by kernel_rfl) rfl rfl s ρ
theorem bs_98 : isByteSlice Try.prog 98 = false := by kernel_rfl
theorem is_98 : isStr Try.prog 98 = false := by kernel_rfl
theorem sz_109 : tySize Try.prog 109 = some 1 := by kernel_rfl
theorem ag_109 : tyAgg Try.prog 109 = some false := by kernel_rfl
theorem by_109 : tyBytes Try.prog 109 = some 4 := by kernel_rfl
theorem ze_109 : zeroOf Try.prog 109 = some (.int .u32 0) := by kernel_rfl
theorem un_109 : Try.prog.underlying 109 = some (.int .u32) := by kernel_rfl
theorem oz_109 : ofVal (.int .u32 0) = .val (.int .u32 0) := rfl
theorem ea_109 (s : AS) (ρ : Operand → PV) : evEff Try.prog s ρ (.alloc 109) = some (.own s.nx 1 0 0, upd s.ob s.nx (some (109, 1, [.val (.int .u32 0)])), s.nx + 1) := ea_of ze_109 (by kernel_rfl) rfl rfl s ρ
theorem bs_109 : isByteSlice Try.prog 109 = false := by kernel_rfl
theorem is_109 : isStr Try.prog 109 = false := by kernel_rfl
theorem sz_28 : tySize Try.prog 28 = some 1 := by kernel_rfl
theorem ag_28 : tyAgg Try.prog 28 = some false := by kernel_rfl
theorem by_28 : tyBytes Try.prog 28 = some 24 := by kernel_rfl
theorem ze_28 : zeroOf Try.prog 28 = some (.slice none 0 0) := by kernel_rfl
theorem un_28 : Try.prog.underlying 28 = some (.slice 3) := by kernel_rfl
theorem el_28 : tyElem Try.prog 28 = some 3 := by kernel_rfl
theorem ix_28 {k : Bool} {es : List PV} {i : Int} (h0 : 0 ≤ i) (h1 : i < (es.length : Int)) : evIndexAddr Try.prog 28 (.lst k 1 es) i = some (.ptr k ((es[i.toNat]?).getD .dead) 0) := ix_lst un_28 sz_3 h0 h1
theorem ixr_28 {o j n : Nat} {i : Int} (h0 : 0 ≤ i) (h1 : i < (n : Int)) : evIndexAddr Try.prog 28 (.row o 1 j n) i = some (.own o 1 (j + i.toNat) 0) := ix_row un_28 sz_3 h0 h1
theorem sl_28 {k : Bool} {es : List PV} {lo hi : Option Int} (h0 : 0 ≤ lo.getD 0) (h1 : lo.getD 0 ≤ hi.getD es.length) (h2 : hi.getD es.length ≤ es.length) : evSlice Try.prog 28 (.lst k 1 es) lo hi = some (.lst k 1 ((es.drop (lo.getD 0).toNat).take ((hi.getD es.length).toNat - (lo.getD 0).toNat))) := sl_lst un_28 sz_3 h0 h1 h2
theorem lpl_28 {ty sz : Nat} {k : Bool} {es : List PV} : lenP Try.prog 28 ty (.lst k sz es) = some (.val (.int .i64 es.length)) := lp_lst el_28
theorem lpr_28 {ty o sz i n : Nat} : lenP Try.prog 28 ty (.row o sz i n) = some (.val (.int .i64 n)) := lp_row el_28
theorem lpn_28 {ty : Nat} : lenP Try.prog 28 ty (.val (.slice none 0 0)) = some (.val (.int .i64 0)) := lp_nil un_28
theorem oz_28 : ofVal (.slice none 0 0) = .val (.slice none 0 0) := rfl
theorem ea_28 (s : AS) (ρ : Operand → PV) : evEff Try.prog s ρ (.alloc 28) = some (.own s.nx 1 0 0, upd s.ob s.nx (some (28, 1, [.val (.slice none 0 0)])), s.nx + 1) := ea_of ze_28 (by kernel_rfl) rfl rfl s ρ
theorem em_28 (s : AS) (ρ : Operand → PV) (l c : Operand) : evEff Try.prog s ρ (.makeSlice 28 l c) = mkEv 3 1 8 (.int .i64 0) s (ρ l) (ρ c) := em_of el_28 ze_3 sz_3 by_3 (by kernel_rfl) rfl s ρ l c
theorem eap_28 (s : AS) (ρ : Operand → PV) (x y : Operand) : evEff Try.prog s ρ (.call { callee := .builtin .append, args := #[x, y], argTypes := #[28, 28] }) = apEv 3 1 8 s.nx s.ob (ρ x) (obOf s.ob (ρ x)) (sliceEs s.ob 1 (ρ y)) := eap_of el_28 ze_3 sz_3 by_3 (by decide) rfl s ρ x y
theorem bs_28 : isByteSlice Try.prog 28 = false := by kernel_rfl
theorem is_28 : isStr Try.prog 28 = false := by kernel_rfl
theorem sz_32 : tySize Try.prog 32 = some 1 := by kernel_rfl
theorem ag_32 : tyAgg Try.prog 32 = some false := by kernel_rfl
theorem by_32 : tyBytes Try.prog 32 = some 24 := by kernel_rfl
theorem ze_32 : zeroOf Try.prog 32 = some (.slice none 0 0) := by kernel_rfl
theorem un_32 : Try.prog.underlying 32 = some (.slice 5) := by kernel_rfl
theorem el_32 : tyElem Try.prog 32 = some 5 := by kernel_rfl
theorem ix_32 {k : Bool} {es : List PV} {i : Int} (h0 : 0 ≤ i) (h1 : i < (es.length : Int)) : evIndexAddr Try.prog 32 (.lst k 1 es) i = some (.ptr k ((es[i.toNat]?).getD .dead) 0) := ix_lst un_32 sz_5 h0 h1
theorem ixr_32 {o j n : Nat} {i : Int} (h0 : 0 ≤ i) (h1 : i < (n : Int)) : evIndexAddr Try.prog 32 (.row o 1 j n) i = some (.own o 1 (j + i.toNat) 0) := ix_row un_32 sz_5 h0 h1
theorem sl_32 {k : Bool} {es : List PV} {lo hi : Option Int} (h0 : 0 ≤ lo.getD 0) (h1 : lo.getD 0 ≤ hi.getD es.length) (h2 : hi.getD es.length ≤ es.length) : evSlice Try.prog 32 (.lst k 1 es) lo hi = some (.lst k 1 ((es.drop (lo.getD 0).toNat).take ((hi.getD es.length).toNat - (lo.getD 0).toNat))) := sl_lst un_32 sz_5 h0 h1 h2
theorem lpl_32 {ty sz : Nat} {k : Bool} {es : List PV} : lenP Try.prog 32 ty (.lst k sz es) = some (.val (.int .i64 es.length)) := lp_lst el_32
theorem lpr_32 {ty o sz i n : Nat} : lenP Try.prog 32 ty (.row o sz i n) = some (.val (.int .i64 n)) := lp_row el_32
theorem lpn_32 {ty : Nat} : lenP Try.prog 32 ty (.val (.slice none 0 0)) = some (.val (.int .i64 0)) := lp_nil un_32
theorem oz_32 : ofVal (.slice none 0 0) = .val (.slice none 0 0) := rfl
theorem ea_32 (s : AS) (ρ : Operand → PV) : evEff Try.prog s ρ (.alloc 32) = some (.own s.nx 1 0 0, upd s.ob s.nx (some (32, 1, [.val (.slice none 0 0)])), s.nx + 1) := ea_of ze_32 (by kernel_rfl) rfl rfl s ρ
theorem em_32 (s : AS) (ρ : Operand → PV) (l c : Operand) : evEff Try.prog s ρ (.makeSlice 32 l c) = mkEv 5 1 1 (.int .u8 0) s (ρ l) (ρ c) := em_of el_32 ze_5 sz_5 by_5 (by kernel_rfl) rfl s ρ l c
theorem eap_32 (s : AS) (ρ : Operand → PV) (x y : Operand) : evEff Try.prog s ρ (.call { callee := .builtin .append, args := #[x, y], argTypes := #[32, 32] }) = apEv 5 1 1 s.nx s.ob (ρ x) (obOf s.ob (ρ x)) (sliceEs s.ob 1 (ρ y)) := eap_of el_32 ze_5 sz_5 by_5 (by decide) rfl s ρ x y
theorem bs_32 : isByteSlice Try.prog 32 = true := by kernel_rfl
theorem is_32 : isStr Try.prog 32 = false := by kernel_rfl
theorem sz_36 : tySize Try.prog 36 = some 1 := by kernel_rfl
theorem ag_36 : tyAgg Try.prog 36 = some false := by kernel_rfl
theorem by_36 : tyBytes Try.prog 36 = some 24 := by kernel_rfl
theorem ze_36 : zeroOf Try.prog 36 = some (.slice none 0 0) := by kernel_rfl
theorem un_36 : Try.prog.underlying 36 = some (.slice 9) := by kernel_rfl
theorem el_36 : tyElem Try.prog 36 = some 9 := by kernel_rfl
theorem ix_36 {k : Bool} {es : List PV} {i : Int} (h0 : 0 ≤ i) (h1 : i < (es.length : Int)) : evIndexAddr Try.prog 36 (.lst k 1 es) i = some (.ptr k ((es[i.toNat]?).getD .dead) 0) := ix_lst un_36 sz_9 h0 h1
theorem ixr_36 {o j n : Nat} {i : Int} (h0 : 0 ≤ i) (h1 : i < (n : Int)) : evIndexAddr Try.prog 36 (.row o 1 j n) i = some (.own o 1 (j + i.toNat) 0) := ix_row un_36 sz_9 h0 h1
theorem sl_36 {k : Bool} {es : List PV} {lo hi : Option Int} (h0 : 0 ≤ lo.getD 0) (h1 : lo.getD 0 ≤ hi.getD es.length) (h2 : hi.getD es.length ≤ es.length) : evSlice Try.prog 36 (.lst k 1 es) lo hi = some (.lst k 1 ((es.drop (lo.getD 0).toNat).take ((hi.getD es.length).toNat - (lo.getD 0).toNat))) := sl_lst un_36 sz_9 h0 h1 h2
theorem lpl_36 {ty sz : Nat} {k : Bool} {es : List PV} : lenP Try.prog 36 ty (.lst k sz es) = some (.val (.int .i64 es.length)) := lp_lst el_36
theorem lpr_36 {ty o sz i n : Nat} : lenP Try.prog 36 ty (.row o sz i n) = some (.val (.int .i64 n)) := lp_row el_36
theorem lpn_36 {ty : Nat} : lenP Try.prog 36 ty (.val (.slice none 0 0)) = some (.val (.int .i64 0)) := lp_nil un_36
theorem oz_36 : ofVal (.slice none 0 0) = .val (.slice none 0 0) := rfl
theorem ea_36 (s : AS) (ρ : Operand → PV) : evEff Try.prog s ρ (.alloc 36) = some (.own s.nx 1 0 0, upd s.ob s.nx (some (36, 1, [.val (.slice none 0 0)])), s.nx + 1) := ea_of ze_36 (by kernel_rfl) rfl rfl s ρ
theorem em_36 (s : AS) (ρ : Operand → PV) (l c : Operand) : evEff Try.prog s ρ (.makeSlice 36 l c) = mkEv 9 1 16 (.string ByteArray.empty) s (ρ l) (ρ c) := em_of el_36 ze_9 sz_9 by_9 (by kernel_rfl) rfl s ρ l c
theorem eap_36 (s : AS) (ρ : Operand → PV) (x y : Operand) : evEff Try.prog s ρ (.call { callee := .builtin .append, args := #[x, y], argTypes := #[36, 36] }) = apEv 9 1 16 s.nx s.ob (ρ x) (obOf s.ob (ρ x)) (sliceEs s.ob 1 (ρ y)) := eap_of el_36 ze_9 sz_9 by_9 (by decide) rfl s ρ x y
theorem bs_36 : isByteSlice Try.prog 36 = false := by kernel_rfl
theorem is_36 : isStr Try.prog 36 = false := by kernel_rfl
theorem sz_57 : tySize Try.prog 57 = some 1 := by kernel_rfl
theorem ag_57 : tyAgg Try.prog 57 = some false := by kernel_rfl
theorem by_57 : tyBytes Try.prog 57 = some 24 := by kernel_rfl
theorem ze_57 : zeroOf Try.prog 57 = some (.slice none 0 0) := by kernel_rfl
theorem un_57 : Try.prog.underlying 57 = some (.slice 61) := by kernel_rfl
theorem el_57 : tyElem Try.prog 57 = some 61 := by kernel_rfl
theorem ix_57 {k : Bool} {es : List PV} {i : Int} (h0 : 0 ≤ i) (h1 : i < (es.length : Int)) : evIndexAddr Try.prog 57 (.lst k 2 es) i = some (.ptr k ((es[i.toNat]?).getD .dead) 0) := ix_lst un_57 sz_61 h0 h1
theorem ixr_57 {o j n : Nat} {i : Int} (h0 : 0 ≤ i) (h1 : i < (n : Int)) : evIndexAddr Try.prog 57 (.row o 2 j n) i = some (.own o 2 (j + i.toNat) 0) := ix_row un_57 sz_61 h0 h1
theorem sl_57 {k : Bool} {es : List PV} {lo hi : Option Int} (h0 : 0 ≤ lo.getD 0) (h1 : lo.getD 0 ≤ hi.getD es.length) (h2 : hi.getD es.length ≤ es.length) : evSlice Try.prog 57 (.lst k 2 es) lo hi = some (.lst k 2 ((es.drop (lo.getD 0).toNat).take ((hi.getD es.length).toNat - (lo.getD 0).toNat))) := sl_lst un_57 sz_61 h0 h1 h2
theorem lpl_57 {ty sz : Nat} {k : Bool} {es : List PV} : lenP Try.prog 57 ty (.lst k sz es) = some (.val (.int .i64 es.length)) := lp_lst el_57
theorem lpr_57 {ty o sz i n : Nat} : lenP Try.prog 57 ty (.row o sz i n) = some (.val (.int .i64 n)) := lp_row el_57
theorem lpn_57 {ty : Nat} : lenP Try.prog 57 ty (.val (.slice none 0 0)) = some (.val (.int .i64 0)) := lp_nil un_57
theorem oz_57 : ofVal (.slice none 0 0) = .val (.slice none 0 0) := rfl
theorem ea_57 (s : AS) (ρ : Operand → PV) : evEff Try.prog s ρ (.alloc 57) = some (.own s.nx 1 0 0, upd s.ob s.nx (some (57, 1, [.val (.slice none 0 0)])), s.nx + 1) := ea_of ze_57 (by kernel_rfl) rfl rfl s ρ
theorem em_57 (s : AS) (ρ : Operand → PV) (l c : Operand) : evEff Try.prog s ρ (.makeSlice 57 l c) = mkEv 61 2 24 (.agg #[.string ByteArray.empty, .int .i64 0]) s (ρ l) (ρ c) := em_of el_57 ze_61 sz_61 by_61 (by kernel_rfl) rfl s ρ l c
theorem eap_57 (s : AS) (ρ : Operand → PV) (x y : Operand) : evEff Try.prog s ρ (.call { callee := .builtin .append, args := #[x, y], argTypes := #[57, 57] }) = apEv 61 2 24 s.nx s.ob (ρ x) (obOf s.ob (ρ x)) (sliceEs s.ob 2 (ρ y)) := eap_of el_57 ze_61 sz_61 by_61 (by decide) rfl s ρ x y
theorem bs_57 : isByteSlice Try.prog 57 = false := by kernel_rfl
theorem is_57 : isStr Try.prog 57 = false := by kernel_rfl
theorem sz_63 : tySize Try.prog 63 = some 1 := by kernel_rfl
theorem ag_63 : tyAgg Try.prog 63 = some false := by kernel_rfl
theorem by_63 : tyBytes Try.prog 63 = some 24 := by kernel_rfl
theorem ze_63 : zeroOf Try.prog 63 = some (.slice none 0 0) := by kernel_rfl
theorem un_63 : Try.prog.underlying 63 = some (.slice 25) := by kernel_rfl
theorem el_63 : tyElem Try.prog 63 = some 25 := by kernel_rfl
theorem ix_63 {k : Bool} {es : List PV} {i : Int} (h0 : 0 ≤ i) (h1 : i < (es.length : Int)) : evIndexAddr Try.prog 63 (.lst k 4 es) i = some (.ptr k ((es[i.toNat]?).getD .dead) 0) := ix_lst un_63 sz_25 h0 h1
theorem ixr_63 {o j n : Nat} {i : Int} (h0 : 0 ≤ i) (h1 : i < (n : Int)) : evIndexAddr Try.prog 63 (.row o 4 j n) i = some (.own o 4 (j + i.toNat) 0) := ix_row un_63 sz_25 h0 h1
theorem sl_63 {k : Bool} {es : List PV} {lo hi : Option Int} (h0 : 0 ≤ lo.getD 0) (h1 : lo.getD 0 ≤ hi.getD es.length) (h2 : hi.getD es.length ≤ es.length) : evSlice Try.prog 63 (.lst k 4 es) lo hi = some (.lst k 4 ((es.drop (lo.getD 0).toNat).take ((hi.getD es.length).toNat - (lo.getD 0).toNat))) := sl_lst un_63 sz_25 h0 h1 h2
theorem lpl_63 {ty sz : Nat} {k : Bool} {es : List PV} : lenP Try.prog 63 ty (.lst k sz es) = some (.val (.int .i64 es.length)) := lp_lst el_63
theorem lpr_63 {ty o sz i n : Nat} : lenP Try.prog 63 ty (.row o sz i n) = some (.val (.int .i64 n)) := lp_row el_63
theorem lpn_63 {ty : Nat} : lenP Try.prog 63 ty (.val (.slice none 0 0)) = some (.val (.int .i64 0)) := lp_nil un_63
theorem oz_63 : ofVal (.slice none 0 0) = .val (.slice none 0 0) := rfl
theorem ea_63 (s : AS) (ρ : Operand → PV) : evEff Try.prog s ρ (.alloc 63) = some (.own s.nx 1 0 0, upd s.ob s.nx (some (63, 1, [.val (.slice none 0 0)])), s.nx + 1) := ea_of ze_63 (by kernel_rfl) rfl rfl s ρ
theorem em_63 (s : AS) (ρ : Operand → PV) (l c : Operand) : evEff Try.prog s ρ (.makeSlice 63 l c) = mkEv 25 4 32 (.agg #[.int .i64 0, .int .i64 0, .int .i64 0, .int .i64 0]) s (ρ l) (ρ c) := em_of el_63 ze_25 sz_25 by_25 (by kernel_rfl) rfl s ρ l c
theorem eap_63 (s : AS) (ρ : Operand → PV) (x y : Operand) : evEff Try.prog s ρ (.call { callee := .builtin .append, args := #[x, y], argTypes := #[63, 63] }) = apEv 25 4 32 s.nx s.ob (ρ x) (obOf s.ob (ρ x)) (sliceEs s.ob 4 (ρ y)) := eap_of el_63 ze_25 sz_25 by_25 (by decide) rfl s ρ x y
theorem bs_63 : isByteSlice Try.prog 63 = false := by kernel_rfl
theorem is_63 : isStr Try.prog 63 = false := by kernel_rfl
theorem sz_65 : tySize Try.prog 65 = some 1 := by kernel_rfl
theorem ag_65 : tyAgg Try.prog 65 = some false := by kernel_rfl
theorem by_65 : tyBytes Try.prog 65 = some 24 := by kernel_rfl
theorem ze_65 : zeroOf Try.prog 65 = some (.slice none 0 0) := by kernel_rfl
theorem un_65 : Try.prog.underlying 65 = some (.slice 94) := by kernel_rfl
theorem el_65 : tyElem Try.prog 65 = some 94 := by kernel_rfl
theorem ix_65 {k : Bool} {es : List PV} {i : Int} (h0 : 0 ≤ i) (h1 : i < (es.length : Int)) : evIndexAddr Try.prog 65 (.lst k 2 es) i = some (.ptr k ((es[i.toNat]?).getD .dead) 0) := ix_lst un_65 sz_94 h0 h1
theorem ixr_65 {o j n : Nat} {i : Int} (h0 : 0 ≤ i) (h1 : i < (n : Int)) : evIndexAddr Try.prog 65 (.row o 2 j n) i = some (.own o 2 (j + i.toNat) 0) := ix_row un_65 sz_94 h0 h1
theorem sl_65 {k : Bool} {es : List PV} {lo hi : Option Int} (h0 : 0 ≤ lo.getD 0) (h1 : lo.getD 0 ≤ hi.getD es.length) (h2 : hi.getD es.length ≤ es.length) : evSlice Try.prog 65 (.lst k 2 es) lo hi = some (.lst k 2 ((es.drop (lo.getD 0).toNat).take ((hi.getD es.length).toNat - (lo.getD 0).toNat))) := sl_lst un_65 sz_94 h0 h1 h2
theorem lpl_65 {ty sz : Nat} {k : Bool} {es : List PV} : lenP Try.prog 65 ty (.lst k sz es) = some (.val (.int .i64 es.length)) := lp_lst el_65
theorem lpr_65 {ty o sz i n : Nat} : lenP Try.prog 65 ty (.row o sz i n) = some (.val (.int .i64 n)) := lp_row el_65
theorem lpn_65 {ty : Nat} : lenP Try.prog 65 ty (.val (.slice none 0 0)) = some (.val (.int .i64 0)) := lp_nil un_65
theorem oz_65 : ofVal (.slice none 0 0) = .val (.slice none 0 0) := rfl
theorem ea_65 (s : AS) (ρ : Operand → PV) : evEff Try.prog s ρ (.alloc 65) = some (.own s.nx 1 0 0, upd s.ob s.nx (some (65, 1, [.val (.slice none 0 0)])), s.nx + 1) := ea_of ze_65 (by kernel_rfl) rfl rfl s ρ
theorem em_65 (s : AS) (ρ : Operand → PV) (l c : Operand) : evEff Try.prog s ρ (.makeSlice 65 l c) = mkEv 94 2 24 (.agg #[.string ByteArray.empty, .int .i64 0]) s (ρ l) (ρ c) := em_of el_65 ze_94 sz_94 by_94 (by kernel_rfl) rfl s ρ l c
theorem eap_65 (s : AS) (ρ : Operand → PV) (x y : Operand) : evEff Try.prog s ρ (.call { callee := .builtin .append, args := #[x, y], argTypes := #[65, 65] }) = apEv 94 2 24 s.nx s.ob (ρ x) (obOf s.ob (ρ x)) (sliceEs s.ob 2 (ρ y)) := eap_of el_65 ze_94 sz_94 by_94 (by decide) rfl s ρ x y
theorem bs_65 : isByteSlice Try.prog 65 = false := by kernel_rfl
theorem is_65 : isStr Try.prog 65 = false := by kernel_rfl
theorem cvi_2_2 {k : IntKind} {n : Int} {es : Option (List PV)} : convP Try.prog 2 2 false es (some (.int k n)) = some (.val (.int .i64 (IntKind.i64.wrap n))) := cv_int un_2 un_2
theorem cvi_2_3 {k : IntKind} {n : Int} {es : Option (List PV)} : convP Try.prog 2 3 false es (some (.int k n)) = some (.val (.int .i64 (IntKind.i64.wrap n))) := cv_int un_2 un_3
theorem cvi_2_5 {k : IntKind} {n : Int} {es : Option (List PV)} : convP Try.prog 2 5 false es (some (.int k n)) = some (.val (.int .u8 (IntKind.u8.wrap n))) := cv_int un_2 un_5
theorem cvi_2_12 {k : IntKind} {n : Int} {es : Option (List PV)} : convP Try.prog 2 12 false es (some (.int k n)) = some (.val (.int .u64 (IntKind.u64.wrap n))) := cv_int un_2 un_12
theorem cvi_2_21 {k : IntKind} {n : Int} {es : Option (List PV)} : convP Try.prog 2 21 false es (some (.int k n)) = some (.val (.int .i32 (IntKind.i32.wrap n))) := cv_int un_2 un_21
theorem cvi_2_109 {k : IntKind} {n : Int} {es : Option (List PV)} : convP Try.prog 2 109 false es (some (.int k n)) = some (.val (.int .u32 (IntKind.u32.wrap n))) := cv_int un_2 un_109
theorem cvi_3_2 {k : IntKind} {n : Int} {es : Option (List PV)} : convP Try.prog 3 2 false es (some (.int k n)) = some (.val (.int .i64 (IntKind.i64.wrap n))) := cv_int un_3 un_2
theorem cvi_3_3 {k : IntKind} {n : Int} {es : Option (List PV)} : convP Try.prog 3 3 false es (some (.int k n)) = some (.val (.int .i64 (IntKind.i64.wrap n))) := cv_int un_3 un_3
theorem cvi_3_5 {k : IntKind} {n : Int} {es : Option (List PV)} : convP Try.prog 3 5 false es (some (.int k n)) = some (.val (.int .u8 (IntKind.u8.wrap n))) := cv_int un_3 un_5
theorem cvi_3_12 {k : IntKind} {n : Int} {es : Option (List PV)} : convP Try.prog 3 12 false es (some (.int k n)) = some (.val (.int .u64 (IntKind.u64.wrap n))) := cv_int un_3 un_12
theorem cvi_3_21 {k : IntKind} {n : Int} {es : Option (List PV)} : convP Try.prog 3 21 false es (some (.int k n)) = some (.val (.int .i32 (IntKind.i32.wrap n))) := cv_int un_3 un_21
theorem cvi_3_109 {k : IntKind} {n : Int} {es : Option (List PV)} : convP Try.prog 3 109 false es (some (.int k n)) = some (.val (.int .u32 (IntKind.u32.wrap n))) := cv_int un_3 un_109
theorem cvi_5_2 {k : IntKind} {n : Int} {es : Option (List PV)} : convP Try.prog 5 2 false es (some (.int k n)) = some (.val (.int .i64 (IntKind.i64.wrap n))) := cv_int un_5 un_2
theorem cvi_5_3 {k : IntKind} {n : Int} {es : Option (List PV)} : convP Try.prog 5 3 false es (some (.int k n)) = some (.val (.int .i64 (IntKind.i64.wrap n))) := cv_int un_5 un_3
theorem cvi_5_5 {k : IntKind} {n : Int} {es : Option (List PV)} : convP Try.prog 5 5 false es (some (.int k n)) = some (.val (.int .u8 (IntKind.u8.wrap n))) := cv_int un_5 un_5
theorem cvi_5_12 {k : IntKind} {n : Int} {es : Option (List PV)} : convP Try.prog 5 12 false es (some (.int k n)) = some (.val (.int .u64 (IntKind.u64.wrap n))) := cv_int un_5 un_12
theorem cvi_5_21 {k : IntKind} {n : Int} {es : Option (List PV)} : convP Try.prog 5 21 false es (some (.int k n)) = some (.val (.int .i32 (IntKind.i32.wrap n))) := cv_int un_5 un_21
theorem cvi_5_109 {k : IntKind} {n : Int} {es : Option (List PV)} : convP Try.prog 5 109 false es (some (.int k n)) = some (.val (.int .u32 (IntKind.u32.wrap n))) := cv_int un_5 un_109
theorem cvi_12_2 {k : IntKind} {n : Int} {es : Option (List PV)} : convP Try.prog 12 2 false es (some (.int k n)) = some (.val (.int .i64 (IntKind.i64.wrap n))) := cv_int un_12 un_2
theorem cvi_12_3 {k : IntKind} {n : Int} {es : Option (List PV)} : convP Try.prog 12 3 false es (some (.int k n)) = some (.val (.int .i64 (IntKind.i64.wrap n))) := cv_int un_12 un_3
theorem cvi_12_5 {k : IntKind} {n : Int} {es : Option (List PV)} : convP Try.prog 12 5 false es (some (.int k n)) = some (.val (.int .u8 (IntKind.u8.wrap n))) := cv_int un_12 un_5
theorem cvi_12_12 {k : IntKind} {n : Int} {es : Option (List PV)} : convP Try.prog 12 12 false es (some (.int k n)) = some (.val (.int .u64 (IntKind.u64.wrap n))) := cv_int un_12 un_12
theorem cvi_12_21 {k : IntKind} {n : Int} {es : Option (List PV)} : convP Try.prog 12 21 false es (some (.int k n)) = some (.val (.int .i32 (IntKind.i32.wrap n))) := cv_int un_12 un_21
theorem cvi_12_109 {k : IntKind} {n : Int} {es : Option (List PV)} : convP Try.prog 12 109 false es (some (.int k n)) = some (.val (.int .u32 (IntKind.u32.wrap n))) := cv_int un_12 un_109
theorem cvi_21_2 {k : IntKind} {n : Int} {es : Option (List PV)} : convP Try.prog 21 2 false es (some (.int k n)) = some (.val (.int .i64 (IntKind.i64.wrap n))) := cv_int un_21 un_2
theorem cvi_21_3 {k : IntKind} {n : Int} {es : Option (List PV)} : convP Try.prog 21 3 false es (some (.int k n)) = some (.val (.int .i64 (IntKind.i64.wrap n))) := cv_int un_21 un_3
theorem cvi_21_5 {k : IntKind} {n : Int} {es : Option (List PV)} : convP Try.prog 21 5 false es (some (.int k n)) = some (.val (.int .u8 (IntKind.u8.wrap n))) := cv_int un_21 un_5
theorem cvi_21_12 {k : IntKind} {n : Int} {es : Option (List PV)} : convP Try.prog 21 12 false es (some (.int k n)) = some (.val (.int .u64 (IntKind.u64.wrap n))) := cv_int un_21 un_12
theorem cvi_21_21 {k : IntKind} {n : Int} {es : Option (List PV)} : convP Try.prog 21 21 false es (some (.int k n)) = some (.val (.int .i32 (IntKind.i32.wrap n))) := cv_int un_21 un_21
theorem cvi_21_109 {k : IntKind} {n : Int} {es : Option (List PV)} : convP Try.prog 21 109 false es (some (.int k n)) = some (.val (.int .u32 (IntKind.u32.wrap n))) := cv_int un_21 un_109
theorem cvi_109_2 {k : IntKind} {n : Int} {es : Option (List PV)} : convP Try.prog 109 2 false es (some (.int k n)) = some (.val (.int .i64 (IntKind.i64.wrap n))) := cv_int un_109 un_2
theorem cvi_109_3 {k : IntKind} {n : Int} {es : Option (List PV)} : convP Try.prog 109 3 false es (some (.int k n)) = some (.val (.int .i64 (IntKind.i64.wrap n))) := cv_int un_109 un_3
theorem cvi_109_5 {k : IntKind} {n : Int} {es : Option (List PV)} : convP Try.prog 109 5 false es (some (.int k n)) = some (.val (.int .u8 (IntKind.u8.wrap n))) := cv_int un_109 un_5
theorem cvi_109_12 {k : IntKind} {n : Int} {es : Option (List PV)} : convP Try.prog 109 12 false es (some (.int k n)) = some (.val (.int .u64 (IntKind.u64.wrap n))) := cv_int un_109 un_12
theorem cvi_109_21 {k : IntKind} {n : Int} {es : Option (List PV)} : convP Try.prog 109 21 false es (some (.int k n)) = some (.val (.int .i32 (IntKind.i32.wrap n))) := cv_int un_109 un_21
theorem cvi_109_109 {k : IntKind} {n : Int} {es : Option (List PV)} : convP Try.prog 109 109 false es (some (.int k n)) = some (.val (.int .u32 (IntKind.u32.wrap n))) := cv_int un_109 un_109
theorem mixed : Try.prog.follows .mixedOrders = true := by kernel_rfl
attribute [push_cast]
  sz_2
  ag_2
  by_2
  ze_2
  un_2
  oz_2
  ea_2
  bs_2
  is_2
  sz_3
  ag_3
  by_3
  ze_3
  un_3
  oz_3
  ea_3
  bs_3
  is_3
  sz_4
  ag_4
  by_4
  ze_4
  un_4
  bqe_4
  bqn_4
  oz_4
  ea_4
  bs_4
  is_4
  sz_5
  ag_5
  by_5
  ze_5
  un_5
  oz_5
  ea_5
  bs_5
  is_5
  sz_7
  ag_7
  by_7
  ze_7
  fo_7_0
  fo_7_1
  fo_7_2
  fo_7_3
  pl_7
  oz_7
  ea_7
  bs_7
  is_7
  sz_9
  ag_9
  by_9
  ze_9
  un_9
  lps_9
  ixs_9
  oz_9
  ea_9
  bs_9
  is_9
  sz_12
  ag_12
  by_12
  ze_12
  un_12
  oz_12
  ea_12
  bs_12
  is_12
  sz_13
  ag_13
  by_13
  ze_13
  fo_13_0
  fo_13_1
  pl_13
  oz_13
  ea_13
  bs_13
  is_13
  sz_21
  ag_21
  by_21
  ze_21
  un_21
  oz_21
  ea_21
  bs_21
  is_21
  sz_22
  ag_22
  by_22
  ze_22
  fo_22_0
  fo_22_1
  fo_22_2
  fo_22_3
  pl_22
  oz_22
  ea_22
  bs_22
  is_22
  sz_23
  ag_23
  by_23
  ze_23
  fo_23_0
  fo_23_1
  fo_23_2
  fo_23_3
  pl_23
  oz_23
  ea_23
  bs_23
  is_23
  sz_25
  ag_25
  by_25
  ze_25
  fo_25_0
  fo_25_1
  fo_25_2
  fo_25_3
  pl_25
  oz_25
  ea_25
  bs_25
  is_25
  sz_47
  ag_47
  by_47
  ze_47
  fo_47_0
  fo_47_1
  pl_47
  oz_47
  ea_47
  bs_47
  is_47
  sz_48
  ag_48
  by_48
  ze_48
  fo_48_0
  fo_48_1
  pl_48
  oz_48
  ea_48
  bs_48
  is_48
  sz_51
  ag_51
  by_51
  ze_51
  fo_51_0
  fo_51_1
  pl_51
  oz_51
  ea_51
  bs_51
  is_51
  sz_60
  ag_60
  by_60
  ze_60
  fo_60_0
  fo_60_1
  pl_60
  oz_60
  ea_60
  bs_60
  is_60
  sz_61
  ag_61
  by_61
  ze_61
  fo_61_0
  fo_61_1
  pl_61
  oz_61
  ea_61
  bs_61
  is_61
  sz_76
  ag_76
  by_76
  ze_76
  fo_76_0
  fo_76_1
  fo_76_2
  fo_76_3
  pl_76
  oz_76
  ea_76
  bs_76
  is_76
  sz_77
  ag_77
  by_77
  ze_77
  fo_77_0
  fo_77_1
  fo_77_2
  fo_77_3
  pl_77
  oz_77
  ea_77
  bs_77
  is_77
  sz_94
  ag_94
  by_94
  ze_94
  fo_94_0
  fo_94_1
  pl_94
  oz_94
  ea_94
  bs_94
  is_94
  sz_97
  ag_97
  by_97
  ze_97
  fo_97_0
  fo_97_1
  pl_97
  oz_97
  ea_97
  bs_97
  is_97
  sz_98
  ag_98
  by_98
  ze_98
  fo_98_0
  fo_98_1
  pl_98
  oz_98
  ea_98
  bs_98
  is_98
  sz_109
  ag_109
  by_109
  ze_109
  un_109
  oz_109
  ea_109
  bs_109
  is_109
  sz_28
  ag_28
  by_28
  ze_28
  un_28
  el_28
  ix_28
  ixr_28
  sl_28
  lpl_28
  lpr_28
  lpn_28
  oz_28
  ea_28
  em_28
  eap_28
  bs_28
  is_28
  sz_32
  ag_32
  by_32
  ze_32
  un_32
  el_32
  ix_32
  ixr_32
  sl_32
  lpl_32
  lpr_32
  lpn_32
  oz_32
  ea_32
  em_32
  eap_32
  bs_32
  is_32
  sz_36
  ag_36
  by_36
  ze_36
  un_36
  el_36
  ix_36
  ixr_36
  sl_36
  lpl_36
  lpr_36
  lpn_36
  oz_36
  ea_36
  em_36
  eap_36
  bs_36
  is_36
  sz_57
  ag_57
  by_57
  ze_57
  un_57
  el_57
  ix_57
  ixr_57
  sl_57
  lpl_57
  lpr_57
  lpn_57
  oz_57
  ea_57
  em_57
  eap_57
  bs_57
  is_57
  sz_63
  ag_63
  by_63
  ze_63
  un_63
  el_63
  ix_63
  ixr_63
  sl_63
  lpl_63
  lpr_63
  lpn_63
  oz_63
  ea_63
  em_63
  eap_63
  bs_63
  is_63
  sz_65
  ag_65
  by_65
  ze_65
  un_65
  el_65
  ix_65
  ixr_65
  sl_65
  lpl_65
  lpr_65
  lpn_65
  oz_65
  ea_65
  em_65
  eap_65
  bs_65
  is_65
  cvi_2_2
  cvi_2_3
  cvi_2_5
  cvi_2_12
  cvi_2_21
  cvi_2_109
  cvi_3_2
  cvi_3_3
  cvi_3_5
  cvi_3_12
  cvi_3_21
  cvi_3_109
  cvi_5_2
  cvi_5_3
  cvi_5_5
  cvi_5_12
  cvi_5_21
  cvi_5_109
  cvi_12_2
  cvi_12_3
  cvi_12_5
  cvi_12_12
  cvi_12_21
  cvi_12_109
  cvi_21_2
  cvi_21_3
  cvi_21_5
  cvi_21_12
  cvi_21_21
  cvi_21_109
  cvi_109_2
  cvi_109_3
  cvi_109_5
  cvi_109_12
  cvi_109_21
  cvi_109_109
end Go.Proofs.Ytijeoiffkgemdaa
