/- Facts on the types of this seat, each reckoned by the kernel. -/
import Derived.Test.YtnblbgdencdgjaaProg
import Derived.Test.YtnblbgdencdgjaaPxS
namespace Go.Proofs.Ytnblbgdencdgjaa
open Go.RowKit
set_option linter.all false
theorem sz_2 : tySize Try.prog 2 = some 1 := by kernel_rfl
theorem ag_2 : tyAgg Try.prog 2 = some false := by kernel_rfl
theorem by_2 : tyBytes Try.prog 2 = some 8 := by kernel_rfl
theorem ze_2 : zeroOf Try.prog 2 = some (.int .i64 0) := by kernel_rfl
theorem un_2 : Try.prog.underlying 2 = some (.int .i64) := by kernel_rfl
theorem oz_2 : ofVal (.int .i64 0) = .val (.int .i64 0) := rfl
theorem ea_2 (s : AS) (ρ : Operand → PV) : evEff Try.prog s ρ (.alloc 2) = some (.own s.nx 1 0 0, upd s.ob s.nx (some (2, 1, [.val (.int .i64 0)])), s.nx + 1) := ea_of ze_2 (by kernel_rfl) rfl rfl s ρ
theorem bs_2 : isByteSlice Try.prog 2 = false := by kernel_rfl
theorem is_2 : isStr Try.prog 2 = false := by kernel_rfl
theorem sz_3 : tySize Try.prog 3 = some 1 := by kernel_rfl
theorem ag_3 : tyAgg Try.prog 3 = some false := by kernel_rfl
theorem by_3 : tyBytes Try.prog 3 = some 8 := by kernel_rfl
theorem ze_3 : zeroOf Try.prog 3 = some (.int .i64 0) := by kernel_rfl
theorem un_3 : Try.prog.underlying 3 = some (.int .i64) := by kernel_rfl
theorem oz_3 : ofVal (.int .i64 0) = .val (.int .i64 0) := rfl
theorem ea_3 (s : AS) (ρ : Operand → PV) : evEff Try.prog s ρ (.alloc 3) = some (.own s.nx 1 0 0, upd s.ob s.nx (some (3, 1, [.val (.int .i64 0)])), s.nx + 1) := ea_of ze_3 (by kernel_rfl) rfl rfl s ρ
theorem bs_3 : isByteSlice Try.prog 3 = false := by kernel_rfl
theorem is_3 : isStr Try.prog 3 = false := by kernel_rfl
theorem sz_4 : tySize Try.prog 4 = some 1 := by kernel_rfl
theorem ag_4 : tyAgg Try.prog 4 = some false := by kernel_rfl
theorem by_4 : tyBytes Try.prog 4 = some 1 := by kernel_rfl
theorem ze_4 : zeroOf Try.prog 4 = some (.bool false) := by kernel_rfl
theorem un_4 : Try.prog.underlying 4 = some .bool := by kernel_rfl
theorem bqe_4 {x y : Operand} {a b : Bool} : binP Try.prog .eql 4 x y (some (.bool a)) (some (.bool b)) = some (.val (.bool (a == b))) := bp_eqlB un_4
theorem bqn_4 {x y : Operand} {a b : Bool} : binP Try.prog .neq 4 x y (some (.bool a)) (some (.bool b)) = some (.val (.bool (!(a == b)))) := bp_neqB un_4
theorem oz_4 : ofVal (.bool false) = .val (.bool false) := rfl
theorem ea_4 (s : AS) (ρ : Operand → PV) : evEff Try.prog s ρ (.alloc 4) = some (.own s.nx 1 0 0, upd s.ob s.nx (some (4, 1, [.val (.bool false)])), s.nx + 1) := ea_of ze_4 (by kernel_rfl) rfl rfl s ρ
theorem bs_4 : isByteSlice Try.prog 4 = false := by kernel_rfl
theorem is_4 : isStr Try.prog 4 = false := by kernel_rfl
theorem sz_5 : tySize Try.prog 5 = some 1 := by kernel_rfl
theorem ag_5 : tyAgg Try.prog 5 = some false := by kernel_rfl
theorem by_5 : tyBytes Try.prog 5 = some 1 := by kernel_rfl
theorem ze_5 : zeroOf Try.prog 5 = some (.int .u8 0) := by kernel_rfl
theorem un_5 : Try.prog.underlying 5 = some (.int .u8) := by kernel_rfl
theorem oz_5 : ofVal (.int .u8 0) = .val (.int .u8 0) := rfl
theorem ea_5 (s : AS) (ρ : Operand → PV) : evEff Try.prog s ρ (.alloc 5) = some (.own s.nx 1 0 0, upd s.ob s.nx (some (5, 1, [.val (.int .u8 0)])), s.nx + 1) := ea_of ze_5 (by kernel_rfl) rfl rfl s ρ
theorem bs_5 : isByteSlice Try.prog 5 = false := by kernel_rfl
theorem is_5 : isStr Try.prog 5 = false := by kernel_rfl
theorem sz_7 : tySize Try.prog 7 = some 4 := by kernel_rfl
theorem ag_7 : tyAgg Try.prog 7 = some true := by kernel_rfl
theorem by_7 : tyBytes Try.prog 7 = some 24 := by kernel_rfl
theorem ze_7 : zeroOf Try.prog 7 = some (.agg #[.int .i64 0, .int .i64 0, .bool false, .int .u8 0]) := by kernel_rfl
theorem fo_7_0 : fieldOff Try.prog 7 0 = some 0 := by kernel_rfl
theorem fo_7_1 : fieldOff Try.prog 7 1 = some 1 := by kernel_rfl
theorem fo_7_2 : fieldOff Try.prog 7 2 = some 2 := by kernel_rfl
theorem fo_7_3 : fieldOff Try.prog 7 3 = some 3 := by kernel_rfl
theorem pl_7 : structPlaces Try.prog 7 = some #[(0, 1), (1, 1), (2, 1), (3, 1)] := by kernel_rfl
theorem oz_7 : ofVal (.agg #[.int .i64 0, .int .i64 0, .bool false, .int .u8 0]) = .agg [.val (.int .i64 0), .val (.int .i64 0), .val (.bool false), .val (.int .u8 0)] := rfl
theorem ea_7 (s : AS) (ρ : Operand → PV) : evEff Try.prog s ρ (.alloc 7) = some (.own s.nx 4 0 0, upd s.ob s.nx (some (7, 4, [.agg [.val (.int .i64 0), .val (.int .i64 0), .val (.bool false), .val (.int .u8 0)]])), s.nx + 1) := ea_of ze_7 (by kernel_rfl) rfl rfl s ρ
theorem bz_7 {Γ : Nat → Option Fun} {ob : Objs} {ρ : Operand → PV} {ty : Nat} : evVal Try.prog Γ ob ρ ty (.build 7 #[]) = some (.agg [.val (.int .i64 0), .val (.int .i64 0), .val (.bool false), .val (.int .u8 0)]) := (show evBuild Try.prog 7 [] = some (.agg [.val (.int .i64 0), .val (.int .i64 0), .val (.bool false), .val (.int .u8 0)]) from by kernel_rfl)
theorem bs_7 : isByteSlice Try.prog 7 = false := by kernel_rfl
theorem is_7 : isStr Try.prog 7 = false := by kernel_rfl
theorem sz_9 : tySize Try.prog 9 = some 1 := by kernel_rfl
theorem ag_9 : tyAgg Try.prog 9 = some false := by kernel_rfl
theorem by_9 : tyBytes Try.prog 9 = some 16 := by kernel_rfl
theorem ze_9 : zeroOf Try.prog 9 = some (.string ByteArray.empty) := by kernel_rfl
theorem un_9 : Try.prog.underlying 9 = some .string := by kernel_rfl
theorem lps_9 {ty : Nat} {s : ByteArray} : lenP Try.prog 9 ty (.val (.string s)) = some (.val (.int .i64 s.size)) := lp_str un_9
theorem ixs_9 {s : ByteArray} {i : Int} (h0 : 0 ≤ i) (h1 : i < s.size) : idxP Try.prog 9 (some (.string s)) (some (.int .i64 i)) = some (.val (.int .u8 (at8 s i.toNat))) := ix_str un_9 h0 h1
theorem oz_9 : ofVal (.string ByteArray.empty) = .val (.string ByteArray.empty) := rfl
theorem ea_9 (s : AS) (ρ : Operand → PV) : evEff Try.prog s ρ (.alloc 9) = some (.own s.nx 1 0 0, upd s.ob s.nx (some (9, 1, [.val (.string ByteArray.empty)])), s.nx + 1) := ea_of ze_9 (by kernel_rfl) rfl rfl s ρ
theorem bs_9 : isByteSlice Try.prog 9 = false := by kernel_rfl
theorem is_9 : isStr Try.prog 9 = true := by kernel_rfl
theorem sz_12 : tySize Try.prog 12 = some 1 := by kernel_rfl
theorem ag_12 : tyAgg Try.prog 12 = some false := by kernel_rfl
theorem by_12 : tyBytes Try.prog 12 = some 8 := by kernel_rfl
theorem ze_12 : zeroOf Try.prog 12 = some (.int .u64 0) := by kernel_rfl
theorem un_12 : Try.prog.underlying 12 = some (.int .u64) := by kernel_rfl
theorem oz_12 : ofVal (.int .u64 0) = .val (.int .u64 0) := rfl
theorem ea_12 (s : AS) (ρ : Operand → PV) : evEff Try.prog s ρ (.alloc 12) = some (.own s.nx 1 0 0, upd s.ob s.nx (some (12, 1, [.val (.int .u64 0)])), s.nx + 1) := ea_of ze_12 (by kernel_rfl) rfl rfl s ρ
theorem bs_12 : isByteSlice Try.prog 12 = false := by kernel_rfl
theorem is_12 : isStr Try.prog 12 = false := by kernel_rfl
theorem sz_13 : tySize Try.prog 13 = some 2 := by kernel_rfl
theorem ag_13 : tyAgg Try.prog 13 = some true := by kernel_rfl
theorem by_13 : tyBytes Try.prog 13 = some 24 := by kernel_rfl
theorem ze_13 : zeroOf Try.prog 13 = some (.agg #[.string ByteArray.empty, .int .u64 0]) := by kernel_rfl
theorem fo_13_0 : fieldOff Try.prog 13 0 = some 0 := by kernel_rfl
theorem fo_13_1 : fieldOff Try.prog 13 1 = some 1 := by kernel_rfl
theorem pl_13 : structPlaces Try.prog 13 = some #[(0, 1), (1, 1)] := by kernel_rfl
theorem oz_13 : ofVal (.agg #[.string ByteArray.empty, .int .u64 0]) = .agg [.val (.string ByteArray.empty), .val (.int .u64 0)] := rfl
theorem ea_13 (s : AS) (ρ : Operand → PV) : evEff Try.prog s ρ (.alloc 13) = some (.own s.nx 2 0 0, upd s.ob s.nx (some (13, 2, [.agg [.val (.string ByteArray.empty), .val (.int .u64 0)]])), s.nx + 1) := ea_of ze_13 (by kernel_rfl) rfl rfl s ρ
theorem bz_13 {Γ : Nat → Option Fun} {ob : Objs} {ρ : Operand → PV} {ty : Nat} : evVal Try.prog Γ ob ρ ty (.build 13 #[]) = some (.agg [.val (.string ByteArray.empty), .val (.int .u64 0)]) := (show evBuild Try.prog 13 [] = some (.agg [.val (.string ByteArray.empty), .val (.int .u64 0)]) from by kernel_rfl)
theorem bs_13 : isByteSlice Try.prog 13 = false := by kernel_rfl
theorem is_13 : isStr Try.prog 13 = false := by kernel_rfl
theorem sz_21 : tySize Try.prog 21 = some 1 := by kernel_rfl
theorem ag_21 : tyAgg Try.prog 21 = some false := by kernel_rfl
theorem by_21 : tyBytes Try.prog 21 = some 4 := by kernel_rfl
theorem ze_21 : zeroOf Try.prog 21 = some (.int .i32 0) := by kernel_rfl
theorem un_21 : Try.prog.underlying 21 = some (.int .i32) := by kernel_rfl
theorem oz_21 : ofVal (.int .i32 0) = .val (.int .i32 0) := rfl
theorem ea_21 (s : AS) (ρ : Operand → PV) : evEff Try.prog s ρ (.alloc 21) = some (.own s.nx 1 0 0, upd s.ob s.nx (some (21, 1, [.val (.int .i32 0)])), s.nx + 1) := ea_of ze_21 (by kernel_rfl) rfl rfl s ρ
theorem bs_21 : isByteSlice Try.prog 21 = false := by kernel_rfl
theorem is_21 : isStr Try.prog 21 = false := by kernel_rfl
theorem sz_24 : tySize Try.prog 24 = some 4 := by kernel_rfl
theorem ag_24 : tyAgg Try.prog 24 = some true := by kernel_rfl
theorem by_24 : tyBytes Try.prog 24 = some 32 := by kernel_rfl
theorem ze_24 : zeroOf Try.prog 24 = some (.agg #[.int .i64 0, .int .i64 0, .int .i64 0, .int .i64 0]) := by kernel_rfl
theorem fo_24_0 : fieldOff Try.prog 24 0 = some 0 := by kernel_rfl
theorem fo_24_1 : fieldOff Try.prog 24 1 = some 1 := by kernel_rfl
theorem fo_24_2 : fieldOff Try.prog 24 2 = some 2 := by kernel_rfl
theorem fo_24_3 : fieldOff Try.prog 24 3 = some 3 := by kernel_rfl
theorem pl_24 : structPlaces Try.prog 24 = some #[(0, 1), (1, 1), (2, 1), (3, 1)] := by kernel_rfl
theorem oz_24 : ofVal (.agg #[.int .i64 0, .int .i64 0, .int .i64 0, .int .i64 0]) = .agg [.val (.int .i64 0), .val (.int .i64 0), .val (.int .i64 0), .val (.int .i64 0)] := rfl
theorem ea_24 (s : AS) (ρ : Operand → PV) : evEff Try.prog s ρ (.alloc 24) = some (.own s.nx 4 0 0, upd s.ob s.nx (some (24, 4, [.agg [.val (.int .i64 0), .val (.int .i64 0), .val (.int .i64 0), .val (.int .i64 0)]])), s.nx + 1) := ea_of ze_24 (by kernel_rfl) rfl rfl s ρ
theorem bz_24 {Γ : Nat → Option Fun} {ob : Objs} {ρ : Operand → PV} {ty : Nat} : evVal Try.prog Γ ob ρ ty (.build 24 #[]) = some (.agg [.val (.int .i64 0), .val (.int .i64 0), .val (.int .i64 0), .val (.int .i64 0)]) := (show evBuild Try.prog 24 [] = some (.agg [.val (.int .i64 0), .val (.int .i64 0), .val (.int .i64 0), .val (.int .i64 0)]) from by kernel_rfl)
theorem bs_24 : isByteSlice Try.prog 24 = false := by kernel_rfl
theorem is_24 : isStr Try.prog 24 = false := by kernel_rfl
theorem sz_25 : tySize Try.prog 25 = some 4 := by kernel_rfl
theorem ag_25 : tyAgg Try.prog 25 = some true := by kernel_rfl
theorem by_25 : tyBytes Try.prog 25 = some 32 := by kernel_rfl
theorem ze_25 : zeroOf Try.prog 25 = some (.agg #[.int .i64 0, .int .i64 0, .int .i64 0, .int .i64 0]) := by kernel_rfl
theorem fo_25_0 : fieldOff Try.prog 25 0 = some 0 := by kernel_rfl
theorem fo_25_1 : fieldOff Try.prog 25 1 = some 1 := by kernel_rfl
theorem fo_25_2 : fieldOff Try.prog 25 2 = some 2 := by kernel_rfl
theorem fo_25_3 : fieldOff Try.prog 25 3 = some 3 := by kernel_rfl
theorem pl_25 : structPlaces Try.prog 25 = some #[(0, 1), (1, 1), (2, 1), (3, 1)] := by kernel_rfl
theorem oz_25 : ofVal (.agg #[.int .i64 0, .int .i64 0, .int .i64 0, .int .i64 0]) = .agg [.val (.int .i64 0), .val (.int .i64 0), .val (.int .i64 0), .val (.int .i64 0)] := rfl
theorem ea_25 (s : AS) (ρ : Operand → PV) : evEff Try.prog s ρ (.alloc 25) = some (.own s.nx 4 0 0, upd s.ob s.nx (some (25, 4, [.agg [.val (.int .i64 0), .val (.int .i64 0), .val (.int .i64 0), .val (.int .i64 0)]])), s.nx + 1) := ea_of ze_25 (by kernel_rfl) rfl rfl s ρ
theorem bz_25 {Γ : Nat → Option Fun} {ob : Objs} {ρ : Operand → PV} {ty : Nat} : evVal Try.prog Γ ob ρ ty (.build 25 #[]) = some (.agg [.val (.int .i64 0), .val (.int .i64 0), .val (.int .i64 0), .val (.int .i64 0)]) := (show evBuild Try.prog 25 [] = some (.agg [.val (.int .i64 0), .val (.int .i64 0), .val (.int .i64 0), .val (.int .i64 0)]) from by kernel_rfl)
theorem bs_25 : isByteSlice Try.prog 25 = false := by kernel_rfl
theorem is_25 : isStr Try.prog 25 = false := by kernel_rfl
theorem sz_42 : tySize Try.prog 42 = some 5 := by kernel_rfl
theorem ag_42 : tyAgg Try.prog 42 = some true := by kernel_rfl
theorem by_42 : tyBytes Try.prog 42 = some 72 := by kernel_rfl
theorem ze_42 : zeroOf Try.prog 42 = some (.agg #[.slice none 0 0, .slice none 0 0, .int .i64 0, .int .i64 0, .int .i64 0]) := by kernel_rfl
theorem fo_42_0 : fieldOff Try.prog 42 0 = some 0 := by kernel_rfl
theorem fo_42_1 : fieldOff Try.prog 42 1 = some 1 := by kernel_rfl
theorem fo_42_2 : fieldOff Try.prog 42 2 = some 2 := by kernel_rfl
theorem fo_42_3 : fieldOff Try.prog 42 3 = some 3 := by kernel_rfl
theorem fo_42_4 : fieldOff Try.prog 42 4 = some 4 := by kernel_rfl
theorem pl_42 : structPlaces Try.prog 42 = some #[(0, 1), (1, 1), (2, 1), (3, 1), (4, 1)] := by kernel_rfl
theorem oz_42 : ofVal (.agg #[.slice none 0 0, .slice none 0 0, .int .i64 0, .int .i64 0, .int .i64 0]) = .agg [.val (.slice none 0 0), .val (.slice none 0 0), .val (.int .i64 0), .val (.int .i64 0), .val (.int .i64 0)] := rfl
theorem ea_42 (s : AS) (ρ : Operand → PV) : evEff Try.prog s ρ (.alloc 42) = some (.own s.nx 5 0 0, upd s.ob s.nx (some (42, 5, [.agg [.val (.slice none 0 0), .val (.slice none 0 0), .val (.int .i64 0), .val (.int .i64 0), .val (.int .i64 0)]])), s.nx + 1) := ea_of ze_42 (by kernel_rfl) rfl rfl s ρ
theorem bz_42 {Γ : Nat → Option Fun} {ob : Objs} {ρ : Operand → PV} {ty : Nat} : evVal Try.prog Γ ob ρ ty (.build 42 #[]) = some (.agg [.val (.slice none 0 0), .val (.slice none 0 0), .val (.int .i64 0), .val (.int .i64 0), .val (.int .i64 0)]) := (show evBuild Try.prog 42 [] = some (.agg [.val (.slice none 0 0), .val (.slice none 0 0), .val (.int .i64 0), .val (.int .i64 0), .val (.int .i64 0)]) from by kernel_rfl)
theorem bs_42 : isByteSlice Try.prog 42 = false := by kernel_rfl
theorem is_42 : isStr Try.prog 42 = false := by kernel_rfl
theorem sz_43 : tySize Try.prog 43 = some 5 := by kernel_rfl
theorem ag_43 : tyAgg Try.prog 43 = some true := by kernel_rfl
theorem by_43 : tyBytes Try.prog 43 = some 72 := by kernel_rfl
theorem ze_43 : zeroOf Try.prog 43 = some (.agg #[.slice none 0 0, .slice none 0 0, .int .i64 0, .int .i64 0, .int .i64 0]) := by kernel_rfl
theorem fo_43_0 : fieldOff Try.prog 43 0 = some 0 := by kernel_rfl
theorem fo_43_1 : fieldOff Try.prog 43 1 = some 1 := by kernel_rfl
theorem fo_43_2 : fieldOff Try.prog 43 2 = some 2 := by kernel_rfl
theorem fo_43_3 : fieldOff Try.prog 43 3 = some 3 := by kernel_rfl
theorem fo_43_4 : fieldOff Try.prog 43 4 = some 4 := by kernel_rfl
theorem pl_43 : structPlaces Try.prog 43 = some #[(0, 1), (1, 1), (2, 1), (3, 1), (4, 1)] := by kernel_rfl
theorem oz_43 : ofVal (.agg #[.slice none 0 0, .slice none 0 0, .int .i64 0, .int .i64 0, .int .i64 0]) = .agg [.val (.slice none 0 0), .val (.slice none 0 0), .val (.int .i64 0), .val (.int .i64 0), .val (.int .i64 0)] := rfl
theorem ea_43 (s : AS) (ρ : Operand → PV) : evEff Try.prog s ρ (.alloc 43) = some (.own s.nx 5 0 0, upd s.ob s.nx (some (43, 5, [.agg [.val (.slice none 0 0), .val (.slice none 0 0), .val (.int .i64 0), .val (.int .i64 0), .val (.int .i64 0)]])), s.nx + 1) := ea_of ze_43 (by kernel_rfl) rfl rfl s ρ
theorem bz_43 {Γ : Nat → Option Fun} {ob : Objs} {ρ : Operand → PV} {ty : Nat} : evVal Try.prog Γ ob ρ ty (.build 43 #[]) = some (.agg [.val (.slice none 0 0), .val (.slice none 0 0), .val (.int .i64 0), .val (.int .i64 0), .val (.int .i64 0)]) := (show evBuild Try.prog 43 [] = some (.agg [.val (.slice none 0 0), .val (.slice none 0 0), .val (.int .i64 0), .val (.int .i64 0), .val (.int .i64 0)]) from by kernel_rfl)
theorem bs_43 : isByteSlice Try.prog 43 = false := by kernel_rfl
theorem is_43 : isStr Try.prog 43 = false := by kernel_rfl
theorem sz_46 : tySize Try.prog 46 = some 5 := by kernel_rfl
theorem ag_46 : tyAgg Try.prog 46 = some true := by kernel_rfl
theorem by_46 : tyBytes Try.prog 46 = some 72 := by kernel_rfl
theorem ze_46 : zeroOf Try.prog 46 = some (.agg #[.slice none 0 0, .slice none 0 0, .int .i64 0, .int .i64 0, .int .i64 0]) := by kernel_rfl
theorem fo_46_0 : fieldOff Try.prog 46 0 = some 0 := by kernel_rfl
theorem fo_46_1 : fieldOff Try.prog 46 1 = some 1 := by kernel_rfl
theorem fo_46_2 : fieldOff Try.prog 46 2 = some 2 := by kernel_rfl
theorem fo_46_3 : fieldOff Try.prog 46 3 = some 3 := by kernel_rfl
theorem fo_46_4 : fieldOff Try.prog 46 4 = some 4 := by kernel_rfl
theorem pl_46 : structPlaces Try.prog 46 = some #[(0, 1), (1, 1), (2, 1), (3, 1), (4, 1)] := by kernel_rfl
theorem oz_46 : ofVal (.agg #[.slice none 0 0, .slice none 0 0, .int .i64 0, .int .i64 0, .int .i64 0]) = .agg [.val (.slice none 0 0), .val (.slice none 0 0), .val (.int .i64 0), .val (.int .i64 0), .val (.int .i64 0)] := rfl
theorem ea_46 (s : AS) (ρ : Operand → PV) : evEff Try.prog s ρ (.alloc 46) = some (.own s.nx 5 0 0, upd s.ob s.nx (some (46, 5, [.agg [.val (.slice none 0 0), .val (.slice none 0 0), .val (.int .i64 0), .val (.int .i64 0), .val (.int .i64 0)]])), s.nx + 1) := ea_of ze_46 (by kernel_rfl) rfl rfl s ρ
theorem bz_46 {Γ : Nat → Option Fun} {ob : Objs} {ρ : Operand → PV} {ty : Nat} : evVal Try.prog Γ ob ρ ty (.build 46 #[]) = some (.agg [.val (.slice none 0 0), .val (.slice none 0 0), .val (.int .i64 0), .val (.int .i64 0), .val (.int .i64 0)]) := (show evBuild Try.prog 46 [] = some (.agg [.val (.slice none 0 0), .val (.slice none 0 0), .val (.int .i64 0), .val (.int .i64 0), .val (.int .i64 0)]) from by kernel_rfl)
theorem bs_46 : isByteSlice Try.prog 46 = false := by kernel_rfl
theorem is_46 : isStr Try.prog 46 = false := by kernel_rfl
theorem sz_56 : tySize Try.prog 56 = some 3 := by kernel_rfl
theorem ag_56 : tyAgg Try.prog 56 = some true := by kernel_rfl
theorem by_56 : tyBytes Try.prog 56 = some 24 := by kernel_rfl
theorem ze_56 : zeroOf Try.prog 56 = some (.agg #[.int .i64 0, .int .i64 0, .int .i64 0]) := by kernel_rfl
theorem fo_56_0 : fieldOff Try.prog 56 0 = some 0 := by kernel_rfl
theorem fo_56_1 : fieldOff Try.prog 56 1 = some 1 := by kernel_rfl
theorem fo_56_2 : fieldOff Try.prog 56 2 = some 2 := by kernel_rfl
theorem pl_56 : structPlaces Try.prog 56 = some #[(0, 1), (1, 1), (2, 1)] := by kernel_rfl
theorem oz_56 : ofVal (.agg #[.int .i64 0, .int .i64 0, .int .i64 0]) = .agg [.val (.int .i64 0), .val (.int .i64 0), .val (.int .i64 0)] := rfl
theorem ea_56 (s : AS) (ρ : Operand → PV) : evEff Try.prog s ρ (.alloc 56) = some (.own s.nx 3 0 0, upd s.ob s.nx (some (56, 3, [.agg [.val (.int .i64 0), .val (.int .i64 0), .val (.int .i64 0)]])), s.nx + 1) := ea_of ze_56 (by kernel_rfl) rfl rfl s ρ
theorem bz_56 {Γ : Nat → Option Fun} {ob : Objs} {ρ : Operand → PV} {ty : Nat} : evVal Try.prog Γ ob ρ ty (.build 56 #[]) = some (.agg [.val (.int .i64 0), .val (.int .i64 0), .val (.int .i64 0)]) := (show evBuild Try.prog 56 [] = some (.agg [.val (.int .i64 0), .val (.int .i64 0), .val (.int .i64 0)]) from by kernel_rfl)
theorem bs_56 : isByteSlice Try.prog 56 = false := by kernel_rfl
theorem is_56 : isStr Try.prog 56 = false := by kernel_rfl
theorem sz_57 : tySize Try.prog 57 = some 3 := by kernel_rfl
theorem ag_57 : tyAgg Try.prog 57 = some true := by kernel_rfl
theorem by_57 : tyBytes Try.prog 57 = some 24 := by kernel_rfl
theorem ze_57 : zeroOf Try.prog 57 = some (.agg #[.int .i64 0, .int .i64 0, .int .i64 0]) := by kernel_rfl
theorem fo_57_0 : fieldOff Try.prog 57 0 = some 0 := by kernel_rfl
theorem fo_57_1 : fieldOff Try.prog 57 1 = some 1 := by kernel_rfl
theorem fo_57_2 : fieldOff Try.prog 57 2 = some 2 := by kernel_rfl
theorem pl_57 : structPlaces Try.prog 57 = some #[(0, 1), (1, 1), (2, 1)] := by kernel_rfl
theorem oz_57 : ofVal (.agg #[.int .i64 0, .int .i64 0, .int .i64 0]) = .agg [.val (.int .i64 0), .val (.int .i64 0), .val (.int .i64 0)] := rfl
theorem ea_57 (s : AS) (ρ : Operand → PV) : evEff Try.prog s ρ (.alloc 57) = some (.own s.nx 3 0 0, upd s.ob s.nx (some (57, 3, [.agg [.val (.int .i64 0), .val (.int .i64 0), .val (.int .i64 0)]])), s.nx + 1) := ea_of ze_57 (by kernel_rfl) rfl rfl s ρ
theorem bz_57 {Γ : Nat → Option Fun} {ob : Objs} {ρ : Operand → PV} {ty : Nat} : evVal Try.prog Γ ob ρ ty (.build 57 #[]) = some (.agg [.val (.int .i64 0), .val (.int .i64 0), .val (.int .i64 0)]) := (show evBuild Try.prog 57 [] = some (.agg [.val (.int .i64 0), .val (.int .i64 0), .val (.int .i64 0)]) from by kernel_rfl)
theorem bs_57 : isByteSlice Try.prog 57 = false := by kernel_rfl
theorem is_57 : isStr Try.prog 57 = false := by kernel_rfl
theorem sz_62 : tySize Try.prog 62 = some 4 := by kernel_rfl
theorem ag_62 : tyAgg Try.prog 62 = some true := by kernel_rfl
theorem by_62 : tyBytes Try.prog 62 = some 32 := by kernel_rfl
theorem ze_62 : zeroOf Try.prog 62 = some (.agg #[.int .i64 0, .int .i64 0, .int .i64 0, .int .i64 0]) := by kernel_rfl
theorem fo_62_0 : fieldOff Try.prog 62 0 = some 0 := by kernel_rfl
theorem fo_62_1 : fieldOff Try.prog 62 1 = some 1 := by kernel_rfl
theorem fo_62_2 : fieldOff Try.prog 62 2 = some 2 := by kernel_rfl
theorem fo_62_3 : fieldOff Try.prog 62 3 = some 3 := by kernel_rfl
theorem pl_62 : structPlaces Try.prog 62 = some #[(0, 1), (1, 1), (2, 1), (3, 1)] := by kernel_rfl
theorem oz_62 : ofVal (.agg #[.int .i64 0, .int .i64 0, .int .i64 0, .int .i64 0]) = .agg [.val (.int .i64 0), .val (.int .i64 0), .val (.int .i64 0), .val (.int .i64 0)] := rfl
theorem ea_62 (s : AS) (ρ : Operand → PV) : evEff Try.prog s ρ (.alloc 62) = some (.own s.nx 4 0 0, upd s.ob s.nx (some (62, 4, [.agg [.val (.int .i64 0), .val (.int .i64 0), .val (.int .i64 0), .val (.int .i64 0)]])), s.nx + 1) := ea_of ze_62 (by kernel_rfl) rfl rfl s ρ
theorem bz_62 {Γ : Nat → Option Fun} {ob : Objs} {ρ : Operand → PV} {ty : Nat} : evVal Try.prog Γ ob ρ ty (.build 62 #[]) = some (.agg [.val (.int .i64 0), .val (.int .i64 0), .val (.int .i64 0), .val (.int .i64 0)]) := (show evBuild Try.prog 62 [] = some (.agg [.val (.int .i64 0), .val (.int .i64 0), .val (.int .i64 0), .val (.int .i64 0)]) from by kernel_rfl)
theorem bs_62 : isByteSlice Try.prog 62 = false := by kernel_rfl
theorem is_62 : isStr Try.prog 62 = false := by kernel_rfl
theorem sz_66 : tySize Try.prog 66 = some 3 := by kernel_rfl
theorem ag_66 : tyAgg Try.prog 66 = some true := by kernel_rfl
theorem by_66 : tyBytes Try.prog 66 = some 24 := by kernel_rfl
theorem ze_66 : zeroOf Try.prog 66 = some (.agg #[.int .i64 0, .int .i64 0, .int .i64 0]) := by kernel_rfl
theorem fo_66_0 : fieldOff Try.prog 66 0 = some 0 := by kernel_rfl
theorem fo_66_1 : fieldOff Try.prog 66 1 = some 1 := by kernel_rfl
theorem fo_66_2 : fieldOff Try.prog 66 2 = some 2 := by kernel_rfl
theorem pl_66 : structPlaces Try.prog 66 = some #[(0, 1), (1, 1), (2, 1)] := by kernel_rfl
theorem oz_66 : ofVal (.agg #[.int .i64 0, .int .i64 0, .int .i64 0]) = .agg [.val (.int .i64 0), .val (.int .i64 0), .val (.int .i64 0)] := rfl
theorem ea_66 (s : AS) (ρ : Operand → PV) : evEff Try.prog s ρ (.alloc 66) = some (.own s.nx 3 0 0, upd s.ob s.nx (some (66, 3, [.agg [.val (.int .i64 0), .val (.int .i64 0), .val (.int .i64 0)]])), s.nx + 1) := ea_of ze_66 (by kernel_rfl) rfl rfl s ρ
theorem bz_66 {Γ : Nat → Option Fun} {ob : Objs} {ρ : Operand → PV} {ty : Nat} : evVal Try.prog Γ ob ρ ty (.build 66 #[]) = some (.agg [.val (.int .i64 0), .val (.int .i64 0), .val (.int .i64 0)]) := (show evBuild Try.prog 66 [] = some (.agg [.val (.int .i64 0), .val (.int .i64 0), .val (.int .i64 0)]) from by kernel_rfl)
theorem bs_66 : isByteSlice Try.prog 66 = false := by kernel_rfl
theorem is_66 : isStr Try.prog 66 = false := by kernel_rfl
theorem sz_82 : tySize Try.prog 82 = some 4 := by kernel_rfl
theorem ag_82 : tyAgg Try.prog 82 = some true := by kernel_rfl
theorem by_82 : tyBytes Try.prog 82 = some 32 := by kernel_rfl
theorem ze_82 : zeroOf Try.prog 82 = some (.agg #[.int .i64 0, .int .i64 0, .int .i64 0, .int .i64 0]) := by kernel_rfl
theorem fo_82_0 : fieldOff Try.prog 82 0 = some 0 := by kernel_rfl
theorem fo_82_1 : fieldOff Try.prog 82 1 = some 1 := by kernel_rfl
theorem fo_82_2 : fieldOff Try.prog 82 2 = some 2 := by kernel_rfl
theorem fo_82_3 : fieldOff Try.prog 82 3 = some 3 := by kernel_rfl
theorem pl_82 : structPlaces Try.prog 82 = some #[(0, 1), (1, 1), (2, 1), (3, 1)] := by kernel_rfl
theorem oz_82 : ofVal (.agg #[.int .i64 0, .int .i64 0, .int .i64 0, .int .i64 0]) = .agg [.val (.int .i64 0), .val (.int .i64 0), .val (.int .i64 0), .val (.int .i64 0)] := rfl
theorem ea_82 (s : AS) (ρ : Operand → PV) : evEff Try.prog s ρ (.alloc 82) = some (.own s.nx 4 0 0, upd s.ob s.nx (some (82, 4, [.agg [.val (.int .i64 0), .val (.int .i64 0), .val (.int .i64 0), .val (.int .i64 0)]])), s.nx + 1) := ea_of ze_82 (by kernel_rfl) rfl rfl s ρ
theorem bz_82 {Γ : Nat → Option Fun} {ob : Objs} {ρ : Operand → PV} {ty : Nat} : evVal Try.prog Γ ob ρ ty (.build 82 #[]) = some (.agg [.val (.int .i64 0), .val (.int .i64 0), .val (.int .i64 0), .val (.int .i64 0)]) := (show evBuild Try.prog 82 [] = some (.agg [.val (.int .i64 0), .val (.int .i64 0), .val (.int .i64 0), .val (.int .i64 0)]) from by kernel_rfl)
theorem bs_82 : isByteSlice Try.prog 82 = false := by kernel_rfl
theorem is_82 : isStr Try.prog 82 = false := by kernel_rfl
theorem sz_83 : tySize Try.prog 83 = some 4 := by kernel_rfl
theorem ag_83 : tyAgg Try.prog 83 = some true := by kernel_rfl
theorem by_83 : tyBytes Try.prog 83 = some 32 := by kernel_rfl
theorem ze_83 : zeroOf Try.prog 83 = some (.agg #[.int .i64 0, .int .i64 0, .int .i64 0, .int .i64 0]) := by kernel_rfl
theorem fo_83_0 : fieldOff Try.prog 83 0 = some 0 := by kernel_rfl
theorem fo_83_1 : fieldOff Try.prog 83 1 = some 1 := by kernel_rfl
theorem fo_83_2 : fieldOff Try.prog 83 2 = some 2 := by kernel_rfl
theorem fo_83_3 : fieldOff Try.prog 83 3 = some 3 := by kernel_rfl
theorem pl_83 : structPlaces Try.prog 83 = some #[(0, 1), (1, 1), (2, 1), (3, 1)] := by kernel_rfl
theorem oz_83 : ofVal (.agg #[.int .i64 0, .int .i64 0, .int .i64 0, .int .i64 0]) = .agg [.val (.int .i64 0), .val (.int .i64 0), .val (.int .i64 0), .val (.int .i64 0)] := rfl
theorem ea_83 (s : AS) (ρ : Operand → PV) : evEff Try.prog s ρ (.alloc 83) = some (.own s.nx 4 0 0, upd s.ob s.nx (some (83, 4, [.agg [.val (.int .i64 0), .val (.int .i64 0), .val (.int .i64 0), .val (.int .i64 0)]])), s.nx + 1) := ea_of ze_83 (by kernel_rfl) rfl rfl s ρ
theorem bz_83 {Γ : Nat → Option Fun} {ob : Objs} {ρ : Operand → PV} {ty : Nat} : evVal Try.prog Γ ob ρ ty (.build 83 #[]) = some (.agg [.val (.int .i64 0), .val (.int .i64 0), .val (.int .i64 0), .val (.int .i64 0)]) := (show evBuild Try.prog 83 [] = some (.agg [.val (.int .i64 0), .val (.int .i64 0), .val (.int .i64 0), .val (.int .i64 0)]) from by kernel_rfl)
theorem bs_83 : isByteSlice Try.prog 83 = false := by kernel_rfl
theorem is_83 : isStr Try.prog 83 = false := by kernel_rfl
theorem sz_90 : tySize Try.prog 90 = some 2 := by kernel_rfl
theorem ag_90 : tyAgg Try.prog 90 = some true := by kernel_rfl
theorem by_90 : tyBytes Try.prog 90 = some 32 := by kernel_rfl
theorem ze_90 : zeroOf Try.prog 90 = some (.agg #[.slice none 0 0, .int .i64 0]) := by kernel_rfl
theorem fo_90_0 : fieldOff Try.prog 90 0 = some 0 := by kernel_rfl
theorem fo_90_1 : fieldOff Try.prog 90 1 = some 1 := by kernel_rfl
theorem pl_90 : structPlaces Try.prog 90 = some #[(0, 1), (1, 1)] := by kernel_rfl
theorem oz_90 : ofVal (.agg #[.slice none 0 0, .int .i64 0]) = .agg [.val (.slice none 0 0), .val (.int .i64 0)] := rfl
theorem ea_90 (s : AS) (ρ : Operand → PV) : evEff Try.prog s ρ (.alloc 90) = some (.own s.nx 2 0 0, upd s.ob s.nx (some (90, 2, [.agg [.val (.slice none 0 0), .val (.int .i64 0)]])), s.nx + 1) := ea_of ze_90 (by kernel_rfl) rfl rfl s ρ
theorem bz_90 {Γ : Nat → Option Fun} {ob : Objs} {ρ : Operand → PV} {ty : Nat} : evVal Try.prog Γ ob ρ ty (.build 90 #[]) = some (.agg [.val (.slice none 0 0), .val (.int .i64 0)]) := (show evBuild Try.prog 90 [] = some (.agg [.val (.slice none 0 0), .val (.int .i64 0)]) from by kernel_rfl)
theorem bs_90 : isByteSlice Try.prog 90 = false := by kernel_rfl
theorem is_90 : isStr Try.prog 90 = false := by kernel_rfl
theorem sz_91 : tySize Try.prog 91 = some 2 := by kernel_rfl
theorem ag_91 : tyAgg Try.prog 91 = some true := by kernel_rfl
theorem by_91 : tyBytes Try.prog 91 = some 32 := by kernel_rfl
theorem ze_91 : zeroOf Try.prog 91 = some (.agg #[.slice none 0 0, .int .i64 0]) := by kernel_rfl
theorem fo_91_0 : fieldOff Try.prog 91 0 = some 0 := by kernel_rfl
theorem fo_91_1 : fieldOff Try.prog 91 1 = some 1 := by kernel_rfl
theorem pl_91 : structPlaces Try.prog 91 = some #[(0, 1), (1, 1)] := by kernel_rfl
theorem oz_91 : ofVal (.agg #[.slice none 0 0, .int .i64 0]) = .agg [.val (.slice none 0 0), .val (.int .i64 0)] := rfl
theorem ea_91 (s : AS) (ρ : Operand → PV) : evEff Try.prog s ρ (.alloc 91) = some (.own s.nx 2 0 0, upd s.ob s.nx (some (91, 2, [.agg [.val (.slice none 0 0), .val (.int .i64 0)]])), s.nx + 1) := ea_of ze_91 (by kernel_rfl) rfl rfl s ρ
theorem bz_91 {Γ : Nat → Option Fun} {ob : Objs} {ρ : Operand → PV} {ty : Nat} : evVal Try.prog Γ ob ρ ty (.build 91 #[]) = some (.agg [.val (.slice none 0 0), .val (.int .i64 0)]) := (show evBuild Try.prog 91 [] = some (.agg [.val (.slice none 0 0), .val (.int .i64 0)]) from by kernel_rfl)
theorem bs_91 : isByteSlice Try.prog 91 = false := by kernel_rfl
theorem is_91 : isStr Try.prog 91 = false := by kernel_rfl
theorem sz_103 : tySize Try.prog 103 = some 1 := by kernel_rfl
theorem ag_103 : tyAgg Try.prog 103 = some false := by kernel_rfl
theorem by_103 : tyBytes Try.prog 103 = some 4 := by kernel_rfl
theorem ze_103 : zeroOf Try.prog 103 = some (.int .u32 0) := by kernel_rfl
theorem un_103 : Try.prog.underlying 103 = some (.int .u32) := by kernel_rfl
theorem oz_103 : ofVal (.int .u32 0) = .val (.int .u32 0) := rfl
theorem ea_103 (s : AS) (ρ : Operand → PV) : evEff Try.prog s ρ (.alloc 103) = some (.own s.nx 1 0 0, upd s.ob s.nx (some (103, 1, [.val (.int .u32 0)])), s.nx + 1) := ea_of ze_103 (by kernel_rfl) rfl rfl s ρ
theorem bs_103 : isByteSlice Try.prog 103 = false := by kernel_rfl
theorem is_103 : isStr Try.prog 103 = false := by kernel_rfl
theorem sz_22 : tySize Try.prog 22 = some 1 := by kernel_rfl
theorem ag_22 : tyAgg Try.prog 22 = some false := by kernel_rfl
theorem by_22 : tyBytes Try.prog 22 = some 24 := by kernel_rfl
theorem ze_22 : zeroOf Try.prog 22 = some (.slice none 0 0) := by kernel_rfl
theorem un_22 : Try.prog.underlying 22 = some (.slice 62) := by kernel_rfl
theorem el_22 : tyElem Try.prog 22 = some 62 := by kernel_rfl
theorem ix_22 {k : Bool} {es : List PV} {i : Int} (h0 : 0 ≤ i) (h1 : i < (es.length : Int)) : evIndexAddr Try.prog 22 (.lst k 4 es) i = some (.ptr k ((es[i.toNat]?).getD .dead) 0) := ix_lst un_22 sz_62 h0 h1
theorem ixr_22 {o j n : Nat} {i : Int} (h0 : 0 ≤ i) (h1 : i < (n : Int)) : evIndexAddr Try.prog 22 (.row o 4 j n) i = some (.own o 4 (j + i.toNat) 0) := ix_row un_22 sz_62 h0 h1
theorem sl_22 {k : Bool} {es : List PV} {lo hi : Option Int} (h0 : 0 ≤ lo.getD 0) (h1 : lo.getD 0 ≤ hi.getD es.length) (h2 : hi.getD es.length ≤ es.length) : evSlice Try.prog 22 (.lst k 4 es) lo hi = some (.lst k 4 ((es.drop (lo.getD 0).toNat).take ((hi.getD es.length).toNat - (lo.getD 0).toNat))) := sl_lst un_22 sz_62 h0 h1 h2
theorem lpl_22 {ty sz : Nat} {k : Bool} {es : List PV} : lenP Try.prog 22 ty (.lst k sz es) = some (.val (.int .i64 es.length)) := lp_lst el_22
theorem lpr_22 {ty o sz i n : Nat} : lenP Try.prog 22 ty (.row o sz i n) = some (.val (.int .i64 n)) := lp_row el_22
theorem lpn_22 {ty : Nat} : lenP Try.prog 22 ty (.val (.slice none 0 0)) = some (.val (.int .i64 0)) := lp_nil un_22
theorem oz_22 : ofVal (.slice none 0 0) = .val (.slice none 0 0) := rfl
theorem ea_22 (s : AS) (ρ : Operand → PV) : evEff Try.prog s ρ (.alloc 22) = some (.own s.nx 1 0 0, upd s.ob s.nx (some (22, 1, [.val (.slice none 0 0)])), s.nx + 1) := ea_of ze_22 (by kernel_rfl) rfl rfl s ρ
theorem em_22 (s : AS) (ρ : Operand → PV) (l c : Operand) : evEff Try.prog s ρ (.makeSlice 22 l c) = mkEv 62 4 32 (.agg #[.int .i64 0, .int .i64 0, .int .i64 0, .int .i64 0]) s (ρ l) (ρ c) := em_of el_22 ze_62 sz_62 by_62 (by kernel_rfl) rfl s ρ l c
theorem eap_22 (s : AS) (ρ : Operand → PV) (x y : Operand) : evEff Try.prog s ρ (.call { callee := .builtin .append, args := #[x, y], argTypes := #[22, 22] }) = apEv 62 4 32 s.nx s.ob (ρ x) (obOf s.ob (ρ x)) (sliceEs s.ob 4 (ρ y)) := eap_of el_22 ze_62 sz_62 by_62 (by decide) rfl s ρ x y
theorem bs_22 : isByteSlice Try.prog 22 = false := by kernel_rfl
theorem is_22 : isStr Try.prog 22 = false := by kernel_rfl
theorem sz_28 : tySize Try.prog 28 = some 1 := by kernel_rfl
theorem ag_28 : tyAgg Try.prog 28 = some false := by kernel_rfl
theorem by_28 : tyBytes Try.prog 28 = some 24 := by kernel_rfl
theorem ze_28 : zeroOf Try.prog 28 = some (.slice none 0 0) := by kernel_rfl
theorem un_28 : Try.prog.underlying 28 = some (.slice 25) := by kernel_rfl
theorem el_28 : tyElem Try.prog 28 = some 25 := by kernel_rfl
theorem ix_28 {k : Bool} {es : List PV} {i : Int} (h0 : 0 ≤ i) (h1 : i < (es.length : Int)) : evIndexAddr Try.prog 28 (.lst k 4 es) i = some (.ptr k ((es[i.toNat]?).getD .dead) 0) := ix_lst un_28 sz_25 h0 h1
theorem ixr_28 {o j n : Nat} {i : Int} (h0 : 0 ≤ i) (h1 : i < (n : Int)) : evIndexAddr Try.prog 28 (.row o 4 j n) i = some (.own o 4 (j + i.toNat) 0) := ix_row un_28 sz_25 h0 h1
theorem sl_28 {k : Bool} {es : List PV} {lo hi : Option Int} (h0 : 0 ≤ lo.getD 0) (h1 : lo.getD 0 ≤ hi.getD es.length) (h2 : hi.getD es.length ≤ es.length) : evSlice Try.prog 28 (.lst k 4 es) lo hi = some (.lst k 4 ((es.drop (lo.getD 0).toNat).take ((hi.getD es.length).toNat - (lo.getD 0).toNat))) := sl_lst un_28 sz_25 h0 h1 h2
theorem lpl_28 {ty sz : Nat} {k : Bool} {es : List PV} : lenP Try.prog 28 ty (.lst k sz es) = some (.val (.int .i64 es.length)) := lp_lst el_28
theorem lpr_28 {ty o sz i n : Nat} : lenP Try.prog 28 ty (.row o sz i n) = some (.val (.int .i64 n)) := lp_row el_28
theorem lpn_28 {ty : Nat} : lenP Try.prog 28 ty (.val (.slice none 0 0)) = some (.val (.int .i64 0)) := lp_nil un_28
theorem oz_28 : ofVal (.slice none 0 0) = .val (.slice none 0 0) := rfl
theorem ea_28 (s : AS) (ρ : Operand → PV) : evEff Try.prog s ρ (.alloc 28) = some (.own s.nx 1 0 0, upd s.ob s.nx (some (28, 1, [.val (.slice none 0 0)])), s.nx + 1) := ea_of ze_28 (by kernel_rfl) rfl rfl s ρ
theorem em_28 (s : AS) (ρ : Operand → PV) (l c : Operand) : evEff Try.prog s ρ (.makeSlice 28 l c) = mkEv 25 4 32 (.agg #[.int .i64 0, .int .i64 0, .int .i64 0, .int .i64 0]) s (ρ l) (ρ c) := em_of el_28 ze_25 sz_25 by_25 (by kernel_rfl) rfl s ρ l c
theorem eap_28 (s : AS) (ρ : Operand → PV) (x y : Operand) : evEff Try.prog s ρ (.call { callee := .builtin .append, args := #[x, y], argTypes := #[28, 28] }) = apEv 25 4 32 s.nx s.ob (ρ x) (obOf s.ob (ρ x)) (sliceEs s.ob 4 (ρ y)) := eap_of el_28 ze_25 sz_25 by_25 (by decide) rfl s ρ x y
theorem bs_28 : isByteSlice Try.prog 28 = false := by kernel_rfl
theorem is_28 : isStr Try.prog 28 = false := by kernel_rfl
theorem sz_33 : tySize Try.prog 33 = some 1 := by kernel_rfl
theorem ag_33 : tyAgg Try.prog 33 = some false := by kernel_rfl
theorem by_33 : tyBytes Try.prog 33 = some 24 := by kernel_rfl
theorem ze_33 : zeroOf Try.prog 33 = some (.slice none 0 0) := by kernel_rfl
theorem un_33 : Try.prog.underlying 33 = some (.slice 66) := by kernel_rfl
theorem el_33 : tyElem Try.prog 33 = some 66 := by kernel_rfl
theorem ix_33 {k : Bool} {es : List PV} {i : Int} (h0 : 0 ≤ i) (h1 : i < (es.length : Int)) : evIndexAddr Try.prog 33 (.lst k 3 es) i = some (.ptr k ((es[i.toNat]?).getD .dead) 0) := ix_lst un_33 sz_66 h0 h1
theorem ixr_33 {o j n : Nat} {i : Int} (h0 : 0 ≤ i) (h1 : i < (n : Int)) : evIndexAddr Try.prog 33 (.row o 3 j n) i = some (.own o 3 (j + i.toNat) 0) := ix_row un_33 sz_66 h0 h1
theorem sl_33 {k : Bool} {es : List PV} {lo hi : Option Int} (h0 : 0 ≤ lo.getD 0) (h1 : lo.getD 0 ≤ hi.getD es.length) (h2 : hi.getD es.length ≤ es.length) : evSlice Try.prog 33 (.lst k 3 es) lo hi = some (.lst k 3 ((es.drop (lo.getD 0).toNat).take ((hi.getD es.length).toNat - (lo.getD 0).toNat))) := sl_lst un_33 sz_66 h0 h1 h2
theorem lpl_33 {ty sz : Nat} {k : Bool} {es : List PV} : lenP Try.prog 33 ty (.lst k sz es) = some (.val (.int .i64 es.length)) := lp_lst el_33
theorem lpr_33 {ty o sz i n : Nat} : lenP Try.prog 33 ty (.row o sz i n) = some (.val (.int .i64 n)) := lp_row el_33
theorem lpn_33 {ty : Nat} : lenP Try.prog 33 ty (.val (.slice none 0 0)) = some (.val (.int .i64 0)) := lp_nil un_33
theorem oz_33 : ofVal (.slice none 0 0) = .val (.slice none 0 0) := rfl
theorem ea_33 (s : AS) (ρ : Operand → PV) : evEff Try.prog s ρ (.alloc 33) = some (.own s.nx 1 0 0, upd s.ob s.nx (some (33, 1, [.val (.slice none 0 0)])), s.nx + 1) := ea_of ze_33 (by kernel_rfl) rfl rfl s ρ
theorem em_33 (s : AS) (ρ : Operand → PV) (l c : Operand) : evEff Try.prog s ρ (.makeSlice 33 l c) = mkEv 66 3 24 (.agg #[.int .i64 0, .int .i64 0, .int .i64 0]) s (ρ l) (ρ c) := em_of el_33 ze_66 sz_66 by_66 (by kernel_rfl) rfl s ρ l c
theorem eap_33 (s : AS) (ρ : Operand → PV) (x y : Operand) : evEff Try.prog s ρ (.call { callee := .builtin .append, args := #[x, y], argTypes := #[33, 33] }) = apEv 66 3 24 s.nx s.ob (ρ x) (obOf s.ob (ρ x)) (sliceEs s.ob 3 (ρ y)) := eap_of el_33 ze_66 sz_66 by_66 (by decide) rfl s ρ x y
theorem bs_33 : isByteSlice Try.prog 33 = false := by kernel_rfl
theorem is_33 : isStr Try.prog 33 = false := by kernel_rfl
theorem sz_36 : tySize Try.prog 36 = some 1 := by kernel_rfl
theorem ag_36 : tyAgg Try.prog 36 = some false := by kernel_rfl
theorem by_36 : tyBytes Try.prog 36 = some 24 := by kernel_rfl
theorem ze_36 : zeroOf Try.prog 36 = some (.slice none 0 0) := by kernel_rfl
theorem un_36 : Try.prog.underlying 36 = some (.slice 57) := by kernel_rfl
theorem el_36 : tyElem Try.prog 36 = some 57 := by kernel_rfl
theorem ix_36 {k : Bool} {es : List PV} {i : Int} (h0 : 0 ≤ i) (h1 : i < (es.length : Int)) : evIndexAddr Try.prog 36 (.lst k 3 es) i = some (.ptr k ((es[i.toNat]?).getD .dead) 0) := ix_lst un_36 sz_57 h0 h1
theorem ixr_36 {o j n : Nat} {i : Int} (h0 : 0 ≤ i) (h1 : i < (n : Int)) : evIndexAddr Try.prog 36 (.row o 3 j n) i = some (.own o 3 (j + i.toNat) 0) := ix_row un_36 sz_57 h0 h1
theorem sl_36 {k : Bool} {es : List PV} {lo hi : Option Int} (h0 : 0 ≤ lo.getD 0) (h1 : lo.getD 0 ≤ hi.getD es.length) (h2 : hi.getD es.length ≤ es.length) : evSlice Try.prog 36 (.lst k 3 es) lo hi = some (.lst k 3 ((es.drop (lo.getD 0).toNat).take ((hi.getD es.length).toNat - (lo.getD 0).toNat))) := sl_lst un_36 sz_57 h0 h1 h2
theorem lpl_36 {ty sz : Nat} {k : Bool} {es : List PV} : lenP Try.prog 36 ty (.lst k sz es) = some (.val (.int .i64 es.length)) := lp_lst el_36
theorem lpr_36 {ty o sz i n : Nat} : lenP Try.prog 36 ty (.row o sz i n) = some (.val (.int .i64 n)) := lp_row el_36
theorem lpn_36 {ty : Nat} : lenP Try.prog 36 ty (.val (.slice none 0 0)) = some (.val (.int .i64 0)) := lp_nil un_36
theorem oz_36 : ofVal (.slice none 0 0) = .val (.slice none 0 0) := rfl
theorem ea_36 (s : AS) (ρ : Operand → PV) : evEff Try.prog s ρ (.alloc 36) = some (.own s.nx 1 0 0, upd s.ob s.nx (some (36, 1, [.val (.slice none 0 0)])), s.nx + 1) := ea_of ze_36 (by kernel_rfl) rfl rfl s ρ
theorem em_36 (s : AS) (ρ : Operand → PV) (l c : Operand) : evEff Try.prog s ρ (.makeSlice 36 l c) = mkEv 57 3 24 (.agg #[.int .i64 0, .int .i64 0, .int .i64 0]) s (ρ l) (ρ c) := em_of el_36 ze_57 sz_57 by_57 (by kernel_rfl) rfl s ρ l c
theorem eap_36 (s : AS) (ρ : Operand → PV) (x y : Operand) : evEff Try.prog s ρ (.call { callee := .builtin .append, args := #[x, y], argTypes := #[36, 36] }) = apEv 57 3 24 s.nx s.ob (ρ x) (obOf s.ob (ρ x)) (sliceEs s.ob 3 (ρ y)) := eap_of el_36 ze_57 sz_57 by_57 (by decide) rfl s ρ x y
theorem bs_36 : isByteSlice Try.prog 36 = false := by kernel_rfl
theorem is_36 : isStr Try.prog 36 = false := by kernel_rfl
theorem sz_41 : tySize Try.prog 41 = some 1 := by kernel_rfl
theorem ag_41 : tyAgg Try.prog 41 = some false := by kernel_rfl
theorem by_41 : tyBytes Try.prog 41 = some 24 := by kernel_rfl
theorem ze_41 : zeroOf Try.prog 41 = some (.slice none 0 0) := by kernel_rfl
theorem un_41 : Try.prog.underlying 41 = some (.slice 9) := by kernel_rfl
theorem el_41 : tyElem Try.prog 41 = some 9 := by kernel_rfl
theorem ix_41 {k : Bool} {es : List PV} {i : Int} (h0 : 0 ≤ i) (h1 : i < (es.length : Int)) : evIndexAddr Try.prog 41 (.lst k 1 es) i = some (.ptr k ((es[i.toNat]?).getD .dead) 0) := ix_lst un_41 sz_9 h0 h1
theorem ixr_41 {o j n : Nat} {i : Int} (h0 : 0 ≤ i) (h1 : i < (n : Int)) : evIndexAddr Try.prog 41 (.row o 1 j n) i = some (.own o 1 (j + i.toNat) 0) := ix_row un_41 sz_9 h0 h1
theorem sl_41 {k : Bool} {es : List PV} {lo hi : Option Int} (h0 : 0 ≤ lo.getD 0) (h1 : lo.getD 0 ≤ hi.getD es.length) (h2 : hi.getD es.length ≤ es.length) : evSlice Try.prog 41 (.lst k 1 es) lo hi = some (.lst k 1 ((es.drop (lo.getD 0).toNat).take ((hi.getD es.length).toNat - (lo.getD 0).toNat))) := sl_lst un_41 sz_9 h0 h1 h2
theorem lpl_41 {ty sz : Nat} {k : Bool} {es : List PV} : lenP Try.prog 41 ty (.lst k sz es) = some (.val (.int .i64 es.length)) := lp_lst el_41
theorem lpr_41 {ty o sz i n : Nat} : lenP Try.prog 41 ty (.row o sz i n) = some (.val (.int .i64 n)) := lp_row el_41
theorem lpn_41 {ty : Nat} : lenP Try.prog 41 ty (.val (.slice none 0 0)) = some (.val (.int .i64 0)) := lp_nil un_41
theorem oz_41 : ofVal (.slice none 0 0) = .val (.slice none 0 0) := rfl
theorem ea_41 (s : AS) (ρ : Operand → PV) : evEff Try.prog s ρ (.alloc 41) = some (.own s.nx 1 0 0, upd s.ob s.nx (some (41, 1, [.val (.slice none 0 0)])), s.nx + 1) := ea_of ze_41 (by kernel_rfl) rfl rfl s ρ
theorem em_41 (s : AS) (ρ : Operand → PV) (l c : Operand) : evEff Try.prog s ρ (.makeSlice 41 l c) = mkEv 9 1 16 (.string ByteArray.empty) s (ρ l) (ρ c) := em_of el_41 ze_9 sz_9 by_9 (by kernel_rfl) rfl s ρ l c
theorem eap_41 (s : AS) (ρ : Operand → PV) (x y : Operand) : evEff Try.prog s ρ (.call { callee := .builtin .append, args := #[x, y], argTypes := #[41, 41] }) = apEv 9 1 16 s.nx s.ob (ρ x) (obOf s.ob (ρ x)) (sliceEs s.ob 1 (ρ y)) := eap_of el_41 ze_9 sz_9 by_9 (by decide) rfl s ρ x y
theorem bs_41 : isByteSlice Try.prog 41 = false := by kernel_rfl
theorem is_41 : isStr Try.prog 41 = false := by kernel_rfl
theorem sz_50 : tySize Try.prog 50 = some 1 := by kernel_rfl
theorem ag_50 : tyAgg Try.prog 50 = some false := by kernel_rfl
theorem by_50 : tyBytes Try.prog 50 = some 24 := by kernel_rfl
theorem ze_50 : zeroOf Try.prog 50 = some (.slice none 0 0) := by kernel_rfl
theorem un_50 : Try.prog.underlying 50 = some (.slice 5) := by kernel_rfl
theorem el_50 : tyElem Try.prog 50 = some 5 := by kernel_rfl
theorem ix_50 {k : Bool} {es : List PV} {i : Int} (h0 : 0 ≤ i) (h1 : i < (es.length : Int)) : evIndexAddr Try.prog 50 (.lst k 1 es) i = some (.ptr k ((es[i.toNat]?).getD .dead) 0) := ix_lst un_50 sz_5 h0 h1
theorem ixr_50 {o j n : Nat} {i : Int} (h0 : 0 ≤ i) (h1 : i < (n : Int)) : evIndexAddr Try.prog 50 (.row o 1 j n) i = some (.own o 1 (j + i.toNat) 0) := ix_row un_50 sz_5 h0 h1
theorem sl_50 {k : Bool} {es : List PV} {lo hi : Option Int} (h0 : 0 ≤ lo.getD 0) (h1 : lo.getD 0 ≤ hi.getD es.length) (h2 : hi.getD es.length ≤ es.length) : evSlice Try.prog 50 (.lst k 1 es) lo hi = some (.lst k 1 ((es.drop (lo.getD 0).toNat).take ((hi.getD es.length).toNat - (lo.getD 0).toNat))) := sl_lst un_50 sz_5 h0 h1 h2
theorem lpl_50 {ty sz : Nat} {k : Bool} {es : List PV} : lenP Try.prog 50 ty (.lst k sz es) = some (.val (.int .i64 es.length)) := lp_lst el_50
theorem lpr_50 {ty o sz i n : Nat} : lenP Try.prog 50 ty (.row o sz i n) = some (.val (.int .i64 n)) := lp_row el_50
theorem lpn_50 {ty : Nat} : lenP Try.prog 50 ty (.val (.slice none 0 0)) = some (.val (.int .i64 0)) := lp_nil un_50
theorem oz_50 : ofVal (.slice none 0 0) = .val (.slice none 0 0) := rfl
theorem ea_50 (s : AS) (ρ : Operand → PV) : evEff Try.prog s ρ (.alloc 50) = some (.own s.nx 1 0 0, upd s.ob s.nx (some (50, 1, [.val (.slice none 0 0)])), s.nx + 1) := ea_of ze_50 (by kernel_rfl) rfl rfl s ρ
theorem em_50 (s : AS) (ρ : Operand → PV) (l c : Operand) : evEff Try.prog s ρ (.makeSlice 50 l c) = mkEv 5 1 1 (.int .u8 0) s (ρ l) (ρ c) := em_of el_50 ze_5 sz_5 by_5 (by kernel_rfl) rfl s ρ l c
theorem eap_50 (s : AS) (ρ : Operand → PV) (x y : Operand) : evEff Try.prog s ρ (.call { callee := .builtin .append, args := #[x, y], argTypes := #[50, 50] }) = apEv 5 1 1 s.nx s.ob (ρ x) (obOf s.ob (ρ x)) (sliceEs s.ob 1 (ρ y)) := eap_of el_50 ze_5 sz_5 by_5 (by decide) rfl s ρ x y
theorem bs_50 : isByteSlice Try.prog 50 = true := by kernel_rfl
theorem is_50 : isStr Try.prog 50 = false := by kernel_rfl
theorem sz_93 : tySize Try.prog 93 = some 1 := by kernel_rfl
theorem ag_93 : tyAgg Try.prog 93 = some false := by kernel_rfl
theorem by_93 : tyBytes Try.prog 93 = some 24 := by kernel_rfl
theorem ze_93 : zeroOf Try.prog 93 = some (.slice none 0 0) := by kernel_rfl
theorem un_93 : Try.prog.underlying 93 = some (.slice 3) := by kernel_rfl
theorem el_93 : tyElem Try.prog 93 = some 3 := by kernel_rfl
theorem ix_93 {k : Bool} {es : List PV} {i : Int} (h0 : 0 ≤ i) (h1 : i < (es.length : Int)) : evIndexAddr Try.prog 93 (.lst k 1 es) i = some (.ptr k ((es[i.toNat]?).getD .dead) 0) := ix_lst un_93 sz_3 h0 h1
theorem ixr_93 {o j n : Nat} {i : Int} (h0 : 0 ≤ i) (h1 : i < (n : Int)) : evIndexAddr Try.prog 93 (.row o 1 j n) i = some (.own o 1 (j + i.toNat) 0) := ix_row un_93 sz_3 h0 h1
theorem sl_93 {k : Bool} {es : List PV} {lo hi : Option Int} (h0 : 0 ≤ lo.getD 0) (h1 : lo.getD 0 ≤ hi.getD es.length) (h2 : hi.getD es.length ≤ es.length) : evSlice Try.prog 93 (.lst k 1 es) lo hi = some (.lst k 1 ((es.drop (lo.getD 0).toNat).take ((hi.getD es.length).toNat - (lo.getD 0).toNat))) := sl_lst un_93 sz_3 h0 h1 h2
theorem lpl_93 {ty sz : Nat} {k : Bool} {es : List PV} : lenP Try.prog 93 ty (.lst k sz es) = some (.val (.int .i64 es.length)) := lp_lst el_93
theorem lpr_93 {ty o sz i n : Nat} : lenP Try.prog 93 ty (.row o sz i n) = some (.val (.int .i64 n)) := lp_row el_93
theorem lpn_93 {ty : Nat} : lenP Try.prog 93 ty (.val (.slice none 0 0)) = some (.val (.int .i64 0)) := lp_nil un_93
theorem oz_93 : ofVal (.slice none 0 0) = .val (.slice none 0 0) := rfl
theorem ea_93 (s : AS) (ρ : Operand → PV) : evEff Try.prog s ρ (.alloc 93) = some (.own s.nx 1 0 0, upd s.ob s.nx (some (93, 1, [.val (.slice none 0 0)])), s.nx + 1) := ea_of ze_93 (by kernel_rfl) rfl rfl s ρ
theorem em_93 (s : AS) (ρ : Operand → PV) (l c : Operand) : evEff Try.prog s ρ (.makeSlice 93 l c) = mkEv 3 1 8 (.int .i64 0) s (ρ l) (ρ c) := em_of el_93 ze_3 sz_3 by_3 (by kernel_rfl) rfl s ρ l c
theorem eap_93 (s : AS) (ρ : Operand → PV) (x y : Operand) : evEff Try.prog s ρ (.call { callee := .builtin .append, args := #[x, y], argTypes := #[93, 93] }) = apEv 3 1 8 s.nx s.ob (ρ x) (obOf s.ob (ρ x)) (sliceEs s.ob 1 (ρ y)) := eap_of el_93 ze_3 sz_3 by_3 (by decide) rfl s ρ x y
theorem bs_93 : isByteSlice Try.prog 93 = false := by kernel_rfl
theorem is_93 : isStr Try.prog 93 = false := by kernel_rfl
theorem sz_40 : tySize Try.prog 40 = some 1 := by kernel_rfl
theorem ag_40 : tyAgg Try.prog 40 = some false := by kernel_rfl
theorem by_40 : tyBytes Try.prog 40 = some 24 := by kernel_rfl
theorem ze_40 : zeroOf Try.prog 40 = some (.slice none 0 0) := by kernel_rfl
theorem un_40 : Try.prog.underlying 40 = some (.slice 41) := by kernel_rfl
theorem el_40 : tyElem Try.prog 40 = some 41 := by kernel_rfl
theorem ix_40 {k : Bool} {es : List PV} {i : Int} (h0 : 0 ≤ i) (h1 : i < (es.length : Int)) : evIndexAddr Try.prog 40 (.lst k 1 es) i = some (.ptr k ((es[i.toNat]?).getD .dead) 0) := ix_lst un_40 sz_41 h0 h1
theorem ixr_40 {o j n : Nat} {i : Int} (h0 : 0 ≤ i) (h1 : i < (n : Int)) : evIndexAddr Try.prog 40 (.row o 1 j n) i = some (.own o 1 (j + i.toNat) 0) := ix_row un_40 sz_41 h0 h1
theorem sl_40 {k : Bool} {es : List PV} {lo hi : Option Int} (h0 : 0 ≤ lo.getD 0) (h1 : lo.getD 0 ≤ hi.getD es.length) (h2 : hi.getD es.length ≤ es.length) : evSlice Try.prog 40 (.lst k 1 es) lo hi = some (.lst k 1 ((es.drop (lo.getD 0).toNat).take ((hi.getD es.length).toNat - (lo.getD 0).toNat))) := sl_lst un_40 sz_41 h0 h1 h2
theorem lpl_40 {ty sz : Nat} {k : Bool} {es : List PV} : lenP Try.prog 40 ty (.lst k sz es) = some (.val (.int .i64 es.length)) := lp_lst el_40
theorem lpr_40 {ty o sz i n : Nat} : lenP Try.prog 40 ty (.row o sz i n) = some (.val (.int .i64 n)) := lp_row el_40
theorem lpn_40 {ty : Nat} : lenP Try.prog 40 ty (.val (.slice none 0 0)) = some (.val (.int .i64 0)) := lp_nil un_40
theorem oz_40 : ofVal (.slice none 0 0) = .val (.slice none 0 0) := rfl
theorem ea_40 (s : AS) (ρ : Operand → PV) : evEff Try.prog s ρ (.alloc 40) = some (.own s.nx 1 0 0, upd s.ob s.nx (some (40, 1, [.val (.slice none 0 0)])), s.nx + 1) := ea_of ze_40 (by kernel_rfl) rfl rfl s ρ
theorem em_40 (s : AS) (ρ : Operand → PV) (l c : Operand) : evEff Try.prog s ρ (.makeSlice 40 l c) = mkEv 41 1 24 (.slice none 0 0) s (ρ l) (ρ c) := em_of el_40 ze_41 sz_41 by_41 (by kernel_rfl) rfl s ρ l c
theorem eap_40 (s : AS) (ρ : Operand → PV) (x y : Operand) : evEff Try.prog s ρ (.call { callee := .builtin .append, args := #[x, y], argTypes := #[40, 40] }) = apEv 41 1 24 s.nx s.ob (ρ x) (obOf s.ob (ρ x)) (sliceEs s.ob 1 (ρ y)) := eap_of el_40 ze_41 sz_41 by_41 (by decide) rfl s ρ x y
theorem bs_40 : isByteSlice Try.prog 40 = false := by kernel_rfl
theorem is_40 : isStr Try.prog 40 = false := by kernel_rfl
theorem cvi_2_2 {k : IntKind} {n : Int} {es : Option (List PV)} : convP Try.prog 2 2 false es (some (.int k n)) = some (.val (.int .i64 (IntKind.i64.wrap n))) := cv_int un_2 un_2
theorem cvi_2_3 {k : IntKind} {n : Int} {es : Option (List PV)} : convP Try.prog 2 3 false es (some (.int k n)) = some (.val (.int .i64 (IntKind.i64.wrap n))) := cv_int un_2 un_3
theorem cvi_2_5 {k : IntKind} {n : Int} {es : Option (List PV)} : convP Try.prog 2 5 false es (some (.int k n)) = some (.val (.int .u8 (IntKind.u8.wrap n))) := cv_int un_2 un_5
theorem cvi_2_12 {k : IntKind} {n : Int} {es : Option (List PV)} : convP Try.prog 2 12 false es (some (.int k n)) = some (.val (.int .u64 (IntKind.u64.wrap n))) := cv_int un_2 un_12
theorem cvi_2_21 {k : IntKind} {n : Int} {es : Option (List PV)} : convP Try.prog 2 21 false es (some (.int k n)) = some (.val (.int .i32 (IntKind.i32.wrap n))) := cv_int un_2 un_21
theorem cvi_2_103 {k : IntKind} {n : Int} {es : Option (List PV)} : convP Try.prog 2 103 false es (some (.int k n)) = some (.val (.int .u32 (IntKind.u32.wrap n))) := cv_int un_2 un_103
theorem cvi_3_2 {k : IntKind} {n : Int} {es : Option (List PV)} : convP Try.prog 3 2 false es (some (.int k n)) = some (.val (.int .i64 (IntKind.i64.wrap n))) := cv_int un_3 un_2
theorem cvi_3_3 {k : IntKind} {n : Int} {es : Option (List PV)} : convP Try.prog 3 3 false es (some (.int k n)) = some (.val (.int .i64 (IntKind.i64.wrap n))) := cv_int un_3 un_3
theorem cvi_3_5 {k : IntKind} {n : Int} {es : Option (List PV)} : convP Try.prog 3 5 false es (some (.int k n)) = some (.val (.int .u8 (IntKind.u8.wrap n))) := cv_int un_3 un_5
theorem cvi_3_12 {k : IntKind} {n : Int} {es : Option (List PV)} : convP Try.prog 3 12 false es (some (.int k n)) = some (.val (.int .u64 (IntKind.u64.wrap n))) := cv_int un_3 un_12
theorem cvi_3_21 {k : IntKind} {n : Int} {es : Option (List PV)} : convP Try.prog 3 21 false es (some (.int k n)) = some (.val (.int .i32 (IntKind.i32.wrap n))) := cv_int un_3 un_21
theorem cvi_3_103 {k : IntKind} {n : Int} {es : Option (List PV)} : convP Try.prog 3 103 false es (some (.int k n)) = some (.val (.int .u32 (IntKind.u32.wrap n))) := cv_int un_3 un_103
theorem cvi_5_2 {k : IntKind} {n : Int} {es : Option (List PV)} : convP Try.prog 5 2 false es (some (.int k n)) = some (.val (.int .i64 (IntKind.i64.wrap n))) := cv_int un_5 un_2
theorem cvi_5_3 {k : IntKind} {n : Int} {es : Option (List PV)} : convP Try.prog 5 3 false es (some (.int k n)) = some (.val (.int .i64 (IntKind.i64.wrap n))) := cv_int un_5 un_3
theorem cvi_5_5 {k : IntKind} {n : Int} {es : Option (List PV)} : convP Try.prog 5 5 false es (some (.int k n)) = some (.val (.int .u8 (IntKind.u8.wrap n))) := cv_int un_5 un_5
theorem cvi_5_12 {k : IntKind} {n : Int} {es : Option (List PV)} : convP Try.prog 5 12 false es (some (.int k n)) = some (.val (.int .u64 (IntKind.u64.wrap n))) := cv_int un_5 un_12
theorem cvi_5_21 {k : IntKind} {n : Int} {es : Option (List PV)} : convP Try.prog 5 21 false es (some (.int k n)) = some (.val (.int .i32 (IntKind.i32.wrap n))) := cv_int un_5 un_21
theorem cvi_5_103 {k : IntKind} {n : Int} {es : Option (List PV)} : convP Try.prog 5 103 false es (some (.int k n)) = some (.val (.int .u32 (IntKind.u32.wrap n))) := cv_int un_5 un_103
theorem cvi_12_2 {k : IntKind} {n : Int} {es : Option (List PV)} : convP Try.prog 12 2 false es (some (.int k n)) = some (.val (.int .i64 (IntKind.i64.wrap n))) := cv_int un_12 un_2
theorem cvi_12_3 {k : IntKind} {n : Int} {es : Option (List PV)} : convP Try.prog 12 3 false es (some (.int k n)) = some (.val (.int .i64 (IntKind.i64.wrap n))) := cv_int un_12 un_3
theorem cvi_12_5 {k : IntKind} {n : Int} {es : Option (List PV)} : convP Try.prog 12 5 false es (some (.int k n)) = some (.val (.int .u8 (IntKind.u8.wrap n))) := cv_int un_12 un_5
theorem cvi_12_12 {k : IntKind} {n : Int} {es : Option (List PV)} : convP Try.prog 12 12 false es (some (.int k n)) = some (.val (.int .u64 (IntKind.u64.wrap n))) := cv_int un_12 un_12
theorem cvi_12_21 {k : IntKind} {n : Int} {es : Option (List PV)} : convP Try.prog 12 21 false es (some (.int k n)) = some (.val (.int .i32 (IntKind.i32.wrap n))) := cv_int un_12 un_21
theorem cvi_12_103 {k : IntKind} {n : Int} {es : Option (List PV)} : convP Try.prog 12 103 false es (some (.int k n)) = some (.val (.int .u32 (IntKind.u32.wrap n))) := cv_int un_12 un_103
theorem cvi_21_2 {k : IntKind} {n : Int} {es : Option (List PV)} : convP Try.prog 21 2 false es (some (.int k n)) = some (.val (.int .i64 (IntKind.i64.wrap n))) := cv_int un_21 un_2
theorem cvi_21_3 {k : IntKind} {n : Int} {es : Option (List PV)} : convP Try.prog 21 3 false es (some (.int k n)) = some (.val (.int .i64 (IntKind.i64.wrap n))) := cv_int un_21 un_3
theorem cvi_21_5 {k : IntKind} {n : Int} {es : Option (List PV)} : convP Try.prog 21 5 false es (some (.int k n)) = some (.val (.int .u8 (IntKind.u8.wrap n))) := cv_int un_21 un_5
theorem cvi_21_12 {k : IntKind} {n : Int} {es : Option (List PV)} : convP Try.prog 21 12 false es (some (.int k n)) = some (.val (.int .u64 (IntKind.u64.wrap n))) := cv_int un_21 un_12
theorem cvi_21_21 {k : IntKind} {n : Int} {es : Option (List PV)} : convP Try.prog 21 21 false es (some (.int k n)) = some (.val (.int .i32 (IntKind.i32.wrap n))) := cv_int un_21 un_21
theorem cvi_21_103 {k : IntKind} {n : Int} {es : Option (List PV)} : convP Try.prog 21 103 false es (some (.int k n)) = some (.val (.int .u32 (IntKind.u32.wrap n))) := cv_int un_21 un_103
theorem cvi_103_2 {k : IntKind} {n : Int} {es : Option (List PV)} : convP Try.prog 103 2 false es (some (.int k n)) = some (.val (.int .i64 (IntKind.i64.wrap n))) := cv_int un_103 un_2
theorem cvi_103_3 {k : IntKind} {n : Int} {es : Option (List PV)} : convP Try.prog 103 3 false es (some (.int k n)) = some (.val (.int .i64 (IntKind.i64.wrap n))) := cv_int un_103 un_3
theorem cvi_103_5 {k : IntKind} {n : Int} {es : Option (List PV)} : convP Try.prog 103 5 false es (some (.int k n)) = some (.val (.int .u8 (IntKind.u8.wrap n))) := cv_int un_103 un_5
theorem cvi_103_12 {k : IntKind} {n : Int} {es : Option (List PV)} : convP Try.prog 103 12 false es (some (.int k n)) = some (.val (.int .u64 (IntKind.u64.wrap n))) := cv_int un_103 un_12
theorem cvi_103_21 {k : IntKind} {n : Int} {es : Option (List PV)} : convP Try.prog 103 21 false es (some (.int k n)) = some (.val (.int .i32 (IntKind.i32.wrap n))) := cv_int un_103 un_21
theorem cvi_103_103 {k : IntKind} {n : Int} {es : Option (List PV)} : convP Try.prog 103 103 false es (some (.int k n)) = some (.val (.int .u32 (IntKind.u32.wrap n))) := cv_int un_103 un_103
theorem mixed : Try.prog.follows .mixedOrders = true := by kernel_rfl
attribute [push_cast high]
  bz_7
  bz_13
  bz_24
  bz_25
  bz_42
  bz_43
  bz_46
  bz_56
  bz_57
  bz_62
  bz_66
  bz_82
  bz_83
  bz_90
  bz_91
attribute [push_cast]
  sz_2
  ag_2
  by_2
  ze_2
  un_2
  oz_2
  ea_2
  bs_2
  is_2
  sz_3
  ag_3
  by_3
  ze_3
  un_3
  oz_3
  ea_3
  bs_3
  is_3
  sz_4
  ag_4
  by_4
  ze_4
  un_4
  bqe_4
  bqn_4
  oz_4
  ea_4
  bs_4
  is_4
  sz_5
  ag_5
  by_5
  ze_5
  un_5
  oz_5
  ea_5
  bs_5
  is_5
  sz_7
  ag_7
  by_7
  ze_7
  fo_7_0
  fo_7_1
  fo_7_2
  fo_7_3
  pl_7
  oz_7
  ea_7
  bs_7
  is_7
  sz_9
  ag_9
  by_9
  ze_9
  un_9
  lps_9
  ixs_9
  oz_9
  ea_9
  bs_9
  is_9
  sz_12
  ag_12
  by_12
  ze_12
  un_12
  oz_12
  ea_12
  bs_12
  is_12
  sz_13
  ag_13
  by_13
  ze_13
  fo_13_0
  fo_13_1
  pl_13
  oz_13
  ea_13
  bs_13
  is_13
  sz_21
  ag_21
  by_21
  ze_21
  un_21
  oz_21
  ea_21
  bs_21
  is_21
  sz_24
  ag_24
  by_24
  ze_24
  fo_24_0
  fo_24_1
  fo_24_2
  fo_24_3
  pl_24
  oz_24
  ea_24
  bs_24
  is_24
  sz_25
  ag_25
  by_25
  ze_25
  fo_25_0
  fo_25_1
  fo_25_2
  fo_25_3
  pl_25
  oz_25
  ea_25
  bs_25
  is_25
  sz_42
  ag_42
  by_42
  ze_42
  fo_42_0
  fo_42_1
  fo_42_2
  fo_42_3
  fo_42_4
  pl_42
  oz_42
  ea_42
  bs_42
  is_42
  sz_43
  ag_43
  by_43
  ze_43
  fo_43_0
  fo_43_1
  fo_43_2
  fo_43_3
  fo_43_4
  pl_43
  oz_43
  ea_43
  bs_43
  is_43
  sz_46
  ag_46
  by_46
  ze_46
  fo_46_0
  fo_46_1
  fo_46_2
  fo_46_3
  fo_46_4
  pl_46
  oz_46
  ea_46
  bs_46
  is_46
  sz_56
  ag_56
  by_56
  ze_56
  fo_56_0
  fo_56_1
  fo_56_2
  pl_56
  oz_56
  ea_56
  bs_56
  is_56
  sz_57
  ag_57
  by_57
  ze_57
  fo_57_0
  fo_57_1
  fo_57_2
  pl_57
  oz_57
  ea_57
  bs_57
  is_57
  sz_62
  ag_62
  by_62
  ze_62
  fo_62_0
  fo_62_1
  fo_62_2
  fo_62_3
  pl_62
  oz_62
  ea_62
  bs_62
  is_62
  sz_66
  ag_66
  by_66
  ze_66
  fo_66_0
  fo_66_1
  fo_66_2
  pl_66
  oz_66
  ea_66
  bs_66
  is_66
  sz_82
  ag_82
  by_82
  ze_82
  fo_82_0
  fo_82_1
  fo_82_2
  fo_82_3
  pl_82
  oz_82
  ea_82
  bs_82
  is_82
  sz_83
  ag_83
  by_83
  ze_83
  fo_83_0
  fo_83_1
  fo_83_2
  fo_83_3
  pl_83
  oz_83
  ea_83
  bs_83
  is_83
  sz_90
  ag_90
  by_90
  ze_90
  fo_90_0
  fo_90_1
  pl_90
  oz_90
  ea_90
  bs_90
  is_90
  sz_91
  ag_91
  by_91
  ze_91
  fo_91_0
  fo_91_1
  pl_91
  oz_91
  ea_91
  bs_91
  is_91
  sz_103
  ag_103
  by_103
  ze_103
  un_103
  oz_103
  ea_103
  bs_103
  is_103
  sz_22
  ag_22
  by_22
  ze_22
  un_22
  el_22
  ix_22
  ixr_22
  sl_22
  lpl_22
  lpr_22
  lpn_22
  oz_22
  ea_22
  em_22
  eap_22
  bs_22
  is_22
  sz_28
  ag_28
  by_28
  ze_28
  un_28
  el_28
  ix_28
  ixr_28
  sl_28
  lpl_28
  lpr_28
  lpn_28
  oz_28
  ea_28
  em_28
  eap_28
  bs_28
  is_28
  sz_33
  ag_33
  by_33
  ze_33
  un_33
  el_33
  ix_33
  ixr_33
  sl_33
  lpl_33
  lpr_33
  lpn_33
  oz_33
  ea_33
  em_33
  eap_33
  bs_33
  is_33
  sz_36
  ag_36
  by_36
  ze_36
  un_36
  el_36
  ix_36
  ixr_36
  sl_36
  lpl_36
  lpr_36
  lpn_36
  oz_36
  ea_36
  em_36
  eap_36
  bs_36
  is_36
  sz_41
  ag_41
  by_41
  ze_41
  un_41
  el_41
  ix_41
  ixr_41
  sl_41
  lpl_41
  lpr_41
  lpn_41
  oz_41
  ea_41
  em_41
  eap_41
  bs_41
  is_41
  sz_50
  ag_50
  by_50
  ze_50
  un_50
  el_50
  ix_50
  ixr_50
  sl_50
  lpl_50
  lpr_50
  lpn_50
  oz_50
  ea_50
  em_50
  eap_50
  bs_50
  is_50
  sz_93
  ag_93
  by_93
  ze_93
  un_93
  el_93
  ix_93
  ixr_93
  sl_93
  lpl_93
  lpr_93
  lpn_93
  oz_93
  ea_93
  em_93
  eap_93
  bs_93
  is_93
  sz_40
  ag_40
  by_40
  ze_40
  un_40
  el_40
  ix_40
  ixr_40
  sl_40
  lpl_40
  lpr_40
  lpn_40
  oz_40
  ea_40
  em_40
  eap_40
  bs_40
  is_40
  cvi_2_2
  cvi_2_3
  cvi_2_5
  cvi_2_12
  cvi_2_21
  cvi_2_103
  cvi_3_2
  cvi_3_3
  cvi_3_5
  cvi_3_12
  cvi_3_21
  cvi_3_103
  cvi_5_2
  cvi_5_3
  cvi_5_5
  cvi_5_12
  cvi_5_21
  cvi_5_103
  cvi_12_2
  cvi_12_3
  cvi_12_5
  cvi_12_12
  cvi_12_21
  cvi_12_103
  cvi_21_2
  cvi_21_3
  cvi_21_5
  cvi_21_12
  cvi_21_21
  cvi_21_103
  cvi_103_2
  cvi_103_3
  cvi_103_5
  cvi_103_12
  cvi_103_21
  cvi_103_103
end Go.Proofs.Ytnblbgdencdgjaa
