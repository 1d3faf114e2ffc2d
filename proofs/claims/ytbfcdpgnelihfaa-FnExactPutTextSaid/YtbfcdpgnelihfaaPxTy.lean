/- Facts on the types of this seat, each reckoned by the kernel. -/
import Derived.Test.YtbfcdpgnelihfaaProg
import Derived.Test.YtbfcdpgnelihfaaPxW
namespace Go.Proofs.Ytbfcdpgnelihfaa
open Go.RowKit
set_option linter.all false
theorem sz_2 : tySize Try.prog 2 = some 1 := by kernel_rfl
theorem ag_2 : tyAgg Try.prog 2 = some false := by kernel_rfl
theorem by_2 : tyBytes Try.prog 2 = some 8 := by kernel_rfl
theorem ze_2 : zeroOf Try.prog 2 = some (.int .i64 0) := by kernel_rfl
theorem un_2 : Try.prog.underlying 2 = some (.int .i64) := by kernel_rfl
theorem oz_2 : ofVal (.int .i64 0) = .val (.int .i64 0) := rfl
theorem ea_2 {Γ : Ctx} (s : AS) (ρ : Operand → PV) : evEff Try.prog Γ s ρ (.alloc 2) = some (.own s.nx 1 0 0, upd s.ob s.nx (some (2, 1, [.val (.int .i64 0)])), s.nx + 1) := ea_of ze_2 (by kernel_rfl) rfl rfl s ρ
theorem bs_2 : isByteSlice Try.prog 2 = false := by kernel_rfl
theorem is_2 : isStr Try.prog 2 = false := by kernel_rfl
theorem sz_3 : tySize Try.prog 3 = some 1 := by kernel_rfl
theorem ag_3 : tyAgg Try.prog 3 = some false := by kernel_rfl
theorem by_3 : tyBytes Try.prog 3 = some 8 := by kernel_rfl
theorem ze_3 : zeroOf Try.prog 3 = some (.int .i64 0) := by kernel_rfl
theorem un_3 : Try.prog.underlying 3 = some (.int .i64) := by kernel_rfl
theorem oz_3 : ofVal (.int .i64 0) = .val (.int .i64 0) := rfl
theorem ea_3 {Γ : Ctx} (s : AS) (ρ : Operand → PV) : evEff Try.prog Γ s ρ (.alloc 3) = some (.own s.nx 1 0 0, upd s.ob s.nx (some (3, 1, [.val (.int .i64 0)])), s.nx + 1) := ea_of ze_3 (by kernel_rfl) rfl rfl s ρ
theorem bs_3 : isByteSlice Try.prog 3 = false := by kernel_rfl
theorem is_3 : isStr Try.prog 3 = false := by kernel_rfl
theorem sz_4 : tySize Try.prog 4 = some 1 := by kernel_rfl
theorem ag_4 : tyAgg Try.prog 4 = some false := by kernel_rfl
theorem by_4 : tyBytes Try.prog 4 = some 1 := by kernel_rfl
theorem ze_4 : zeroOf Try.prog 4 = some (.bool false) := by kernel_rfl
theorem un_4 : Try.prog.underlying 4 = some .bool := by kernel_rfl
theorem bqe_4 {x y : Operand} {a b : Bool} : binP Try.prog .eql 4 x y (some (.bool a)) (some (.bool b)) = some (.val (.bool (a == b))) := bp_eqlB un_4
theorem bqn_4 {x y : Operand} {a b : Bool} : binP Try.prog .neq 4 x y (some (.bool a)) (some (.bool b)) = some (.val (.bool (!(a == b)))) := bp_neqB un_4
theorem oz_4 : ofVal (.bool false) = .val (.bool false) := rfl
theorem ea_4 {Γ : Ctx} (s : AS) (ρ : Operand → PV) : evEff Try.prog Γ s ρ (.alloc 4) = some (.own s.nx 1 0 0, upd s.ob s.nx (some (4, 1, [.val (.bool false)])), s.nx + 1) := ea_of ze_4 (by kernel_rfl) rfl rfl s ρ
theorem bs_4 : isByteSlice Try.prog 4 = false := by kernel_rfl
theorem is_4 : isStr Try.prog 4 = false := by kernel_rfl
theorem sz_5 : tySize Try.prog 5 = some 1 := by kernel_rfl
theorem ag_5 : tyAgg Try.prog 5 = some false := by kernel_rfl
theorem by_5 : tyBytes Try.prog 5 = some 1 := by kernel_rfl
theorem ze_5 : zeroOf Try.prog 5 = some (.int .u8 0) := by kernel_rfl
theorem un_5 : Try.prog.underlying 5 = some (.int .u8) := by kernel_rfl
theorem oz_5 : ofVal (.int .u8 0) = .val (.int .u8 0) := rfl
theorem ea_5 {Γ : Ctx} (s : AS) (ρ : Operand → PV) : evEff Try.prog Γ s ρ (.alloc 5) = some (.own s.nx 1 0 0, upd s.ob s.nx (some (5, 1, [.val (.int .u8 0)])), s.nx + 1) := ea_of ze_5 (by kernel_rfl) rfl rfl s ρ
theorem bs_5 : isByteSlice Try.prog 5 = false := by kernel_rfl
theorem is_5 : isStr Try.prog 5 = false := by kernel_rfl
theorem sz_7 : tySize Try.prog 7 = some 4 := by kernel_rfl
theorem ag_7 : tyAgg Try.prog 7 = some true := by kernel_rfl
theorem by_7 : tyBytes Try.prog 7 = some 24 := by kernel_rfl
theorem ze_7 : zeroOf Try.prog 7 = some (.agg #[.int .i64 0, .int .i64 0, .bool false, .int .u8 0]) := by kernel_rfl
theorem fo_7_0 : fieldOff Try.prog 7 0 = some 0 := by kernel_rfl
theorem fo_7_1 : fieldOff Try.prog 7 1 = some 1 := by kernel_rfl
theorem fo_7_2 : fieldOff Try.prog 7 2 = some 2 := by kernel_rfl
theorem fo_7_3 : fieldOff Try.prog 7 3 = some 3 := by kernel_rfl
theorem pl_7 : structPlaces Try.prog 7 = some #[(0, 1), (1, 1), (2, 1), (3, 1)] := by kernel_rfl
theorem bl_7 (ps : List (Nat × PV)) : evBuild Try.prog 7 ps = (fillP (plF [(0, 1), (1, 1), (2, 1), (3, 1)]) [.val (.int .i64 0), .val (.int .i64 0), .val (.bool false), .val (.int .u8 0)] ps).map .agg := bl_of ze_7 rfl pl_7 ps
theorem oz_7 : ofVal (.agg #[.int .i64 0, .int .i64 0, .bool false, .int .u8 0]) = .agg [.val (.int .i64 0), .val (.int .i64 0), .val (.bool false), .val (.int .u8 0)] := rfl
theorem ea_7 {Γ : Ctx} (s : AS) (ρ : Operand → PV) : evEff Try.prog Γ s ρ (.alloc 7) = some (.own s.nx 4 0 0, upd s.ob s.nx (some (7, 4, [.agg [.val (.int .i64 0), .val (.int .i64 0), .val (.bool false), .val (.int .u8 0)]])), s.nx + 1) := ea_of ze_7 (by kernel_rfl) rfl rfl s ρ
theorem bz_7 {Γ : Ctx} {ob : Objs} {ρ : Operand → PV} {ty : Nat} : evVal Try.prog Γ ob ρ ty (.build 7 #[]) = some (.agg [.val (.int .i64 0), .val (.int .i64 0), .val (.bool false), .val (.int .u8 0)]) := (show evBuild Try.prog 7 [] = some (.agg [.val (.int .i64 0), .val (.int .i64 0), .val (.bool false), .val (.int .u8 0)]) from by kernel_rfl)
theorem bs_7 : isByteSlice Try.prog 7 = false := by kernel_rfl
theorem is_7 : isStr Try.prog 7 = false := by kernel_rfl
theorem sz_9 : tySize Try.prog 9 = some 1 := by kernel_rfl
theorem ag_9 : tyAgg Try.prog 9 = some false := by kernel_rfl
theorem by_9 : tyBytes Try.prog 9 = some 16 := by kernel_rfl
theorem ze_9 : zeroOf Try.prog 9 = some (.string ByteArray.empty) := by kernel_rfl
theorem un_9 : Try.prog.underlying 9 = some .string := by kernel_rfl
theorem lps_9 {ty : Nat} {s : ByteArray} : lenP Try.prog 9 ty (.val (.string s)) = some (.val (.int .i64 s.size)) := lp_str un_9
theorem ixs_9 {s : ByteArray} {i : Int} (h0 : 0 ≤ i) (h1 : i < s.size) : idxP Try.prog 9 (some (.string s)) (some (.int .i64 i)) = some (.val (.int .u8 (at8 s i.toNat))) := ix_str un_9 h0 h1
theorem oz_9 : ofVal (.string ByteArray.empty) = .val (.string ByteArray.empty) := rfl
theorem ea_9 {Γ : Ctx} (s : AS) (ρ : Operand → PV) : evEff Try.prog Γ s ρ (.alloc 9) = some (.own s.nx 1 0 0, upd s.ob s.nx (some (9, 1, [.val (.string ByteArray.empty)])), s.nx + 1) := ea_of ze_9 (by kernel_rfl) rfl rfl s ρ
theorem bs_9 : isByteSlice Try.prog 9 = false := by kernel_rfl
theorem is_9 : isStr Try.prog 9 = true := by kernel_rfl
theorem sz_12 : tySize Try.prog 12 = some 1 := by kernel_rfl
theorem ag_12 : tyAgg Try.prog 12 = some false := by kernel_rfl
theorem by_12 : tyBytes Try.prog 12 = some 8 := by kernel_rfl
theorem ze_12 : zeroOf Try.prog 12 = some (.int .u64 0) := by kernel_rfl
theorem un_12 : Try.prog.underlying 12 = some (.int .u64) := by kernel_rfl
theorem oz_12 : ofVal (.int .u64 0) = .val (.int .u64 0) := rfl
theorem ea_12 {Γ : Ctx} (s : AS) (ρ : Operand → PV) : evEff Try.prog Γ s ρ (.alloc 12) = some (.own s.nx 1 0 0, upd s.ob s.nx (some (12, 1, [.val (.int .u64 0)])), s.nx + 1) := ea_of ze_12 (by kernel_rfl) rfl rfl s ρ
theorem bs_12 : isByteSlice Try.prog 12 = false := by kernel_rfl
theorem is_12 : isStr Try.prog 12 = false := by kernel_rfl
theorem sz_13 : tySize Try.prog 13 = some 2 := by kernel_rfl
theorem ag_13 : tyAgg Try.prog 13 = some true := by kernel_rfl
theorem by_13 : tyBytes Try.prog 13 = some 24 := by kernel_rfl
theorem ze_13 : zeroOf Try.prog 13 = some (.agg #[.string ByteArray.empty, .int .u64 0]) := by kernel_rfl
theorem fo_13_0 : fieldOff Try.prog 13 0 = some 0 := by kernel_rfl
theorem fo_13_1 : fieldOff Try.prog 13 1 = some 1 := by kernel_rfl
theorem pl_13 : structPlaces Try.prog 13 = some #[(0, 1), (1, 1)] := by kernel_rfl
theorem bl_13 (ps : List (Nat × PV)) : evBuild Try.prog 13 ps = (fillP (plF [(0, 1), (1, 1)]) [.val (.string ByteArray.empty), .val (.int .u64 0)] ps).map .agg := bl_of ze_13 rfl pl_13 ps
theorem oz_13 : ofVal (.agg #[.string ByteArray.empty, .int .u64 0]) = .agg [.val (.string ByteArray.empty), .val (.int .u64 0)] := rfl
theorem ea_13 {Γ : Ctx} (s : AS) (ρ : Operand → PV) : evEff Try.prog Γ s ρ (.alloc 13) = some (.own s.nx 2 0 0, upd s.ob s.nx (some (13, 2, [.agg [.val (.string ByteArray.empty), .val (.int .u64 0)]])), s.nx + 1) := ea_of ze_13 (by kernel_rfl) rfl rfl s ρ
theorem bz_13 {Γ : Ctx} {ob : Objs} {ρ : Operand → PV} {ty : Nat} : evVal Try.prog Γ ob ρ ty (.build 13 #[]) = some (.agg [.val (.string ByteArray.empty), .val (.int .u64 0)]) := (show evBuild Try.prog 13 [] = some (.agg [.val (.string ByteArray.empty), .val (.int .u64 0)]) from by kernel_rfl)
theorem bs_13 : isByteSlice Try.prog 13 = false := by kernel_rfl
theorem is_13 : isStr Try.prog 13 = false := by kernel_rfl
theorem sz_21 : tySize Try.prog 21 = some 1 := by kernel_rfl
theorem ag_21 : tyAgg Try.prog 21 = some false := by kernel_rfl
theorem by_21 : tyBytes Try.prog 21 = some 4 := by kernel_rfl
theorem ze_21 : zeroOf Try.prog 21 = some (.int .i32 0) := by kernel_rfl
theorem un_21 : Try.prog.underlying 21 = some (.int .i32) := by kernel_rfl
theorem oz_21 : ofVal (.int .i32 0) = .val (.int .i32 0) := rfl
theorem ea_21 {Γ : Ctx} (s : AS) (ρ : Operand → PV) : evEff Try.prog Γ s ρ (.alloc 21) = some (.own s.nx 1 0 0, upd s.ob s.nx (some (21, 1, [.val (.int .i32 0)])), s.nx + 1) := ea_of ze_21 (by kernel_rfl) rfl rfl s ρ
theorem bs_21 : isByteSlice Try.prog 21 = false := by kernel_rfl
theorem is_21 : isStr Try.prog 21 = false := by kernel_rfl
theorem sz_23 : tySize Try.prog 23 = some 2 := by kernel_rfl
theorem ag_23 : tyAgg Try.prog 23 = some true := by kernel_rfl
theorem by_23 : tyBytes Try.prog 23 = some 32 := by kernel_rfl
theorem ze_23 : zeroOf Try.prog 23 = some (.agg #[.int .i64 0, .slice none 0 0]) := by kernel_rfl
theorem fo_23_0 : fieldOff Try.prog 23 0 = some 0 := by kernel_rfl
theorem fo_23_1 : fieldOff Try.prog 23 1 = some 1 := by kernel_rfl
theorem pl_23 : structPlaces Try.prog 23 = some #[(0, 1), (1, 1)] := by kernel_rfl
theorem bl_23 (ps : List (Nat × PV)) : evBuild Try.prog 23 ps = (fillP (plF [(0, 1), (1, 1)]) [.val (.int .i64 0), .val (.slice none 0 0)] ps).map .agg := bl_of ze_23 rfl pl_23 ps
theorem oz_23 : ofVal (.agg #[.int .i64 0, .slice none 0 0]) = .agg [.val (.int .i64 0), .val (.slice none 0 0)] := rfl
theorem ea_23 {Γ : Ctx} (s : AS) (ρ : Operand → PV) : evEff Try.prog Γ s ρ (.alloc 23) = some (.own s.nx 2 0 0, upd s.ob s.nx (some (23, 2, [.agg [.val (.int .i64 0), .val (.slice none 0 0)]])), s.nx + 1) := ea_of ze_23 (by kernel_rfl) rfl rfl s ρ
theorem bz_23 {Γ : Ctx} {ob : Objs} {ρ : Operand → PV} {ty : Nat} : evVal Try.prog Γ ob ρ ty (.build 23 #[]) = some (.agg [.val (.int .i64 0), .val (.slice none 0 0)]) := (show evBuild Try.prog 23 [] = some (.agg [.val (.int .i64 0), .val (.slice none 0 0)]) from by kernel_rfl)
theorem bs_23 : isByteSlice Try.prog 23 = false := by kernel_rfl
theorem is_23 : isStr Try.prog 23 = false := by kernel_rfl
theorem sz_24 : tySize Try.prog 24 = some 2 := by kernel_rfl
theorem ag_24 : tyAgg Try.prog 24 = some true := by kernel_rfl
theorem by_24 : tyBytes Try.prog 24 = some 32 := by kernel_rfl
theorem ze_24 : zeroOf Try.prog 24 = some (.agg #[.int .i64 0, .slice none 0 0]) := by kernel_rfl
theorem fo_24_0 : fieldOff Try.prog 24 0 = some 0 := by kernel_rfl
theorem fo_24_1 : fieldOff Try.prog 24 1 = some 1 := by kernel_rfl
theorem pl_24 : structPlaces Try.prog 24 = some #[(0, 1), (1, 1)] := by kernel_rfl
theorem bl_24 (ps : List (Nat × PV)) : evBuild Try.prog 24 ps = (fillP (plF [(0, 1), (1, 1)]) [.val (.int .i64 0), .val (.slice none 0 0)] ps).map .agg := bl_of ze_24 rfl pl_24 ps
theorem oz_24 : ofVal (.agg #[.int .i64 0, .slice none 0 0]) = .agg [.val (.int .i64 0), .val (.slice none 0 0)] := rfl
theorem ea_24 {Γ : Ctx} (s : AS) (ρ : Operand → PV) : evEff Try.prog Γ s ρ (.alloc 24) = some (.own s.nx 2 0 0, upd s.ob s.nx (some (24, 2, [.agg [.val (.int .i64 0), .val (.slice none 0 0)]])), s.nx + 1) := ea_of ze_24 (by kernel_rfl) rfl rfl s ρ
theorem bz_24 {Γ : Ctx} {ob : Objs} {ρ : Operand → PV} {ty : Nat} : evVal Try.prog Γ ob ρ ty (.build 24 #[]) = some (.agg [.val (.int .i64 0), .val (.slice none 0 0)]) := (show evBuild Try.prog 24 [] = some (.agg [.val (.int .i64 0), .val (.slice none 0 0)]) from by kernel_rfl)
theorem bs_24 : isByteSlice Try.prog 24 = false := by kernel_rfl
theorem is_24 : isStr Try.prog 24 = false := by kernel_rfl
theorem sz_39 : tySize Try.prog 39 = some 2 := by kernel_rfl
theorem ag_39 : tyAgg Try.prog 39 = some true := by kernel_rfl
theorem by_39 : tyBytes Try.prog 39 = some 32 := by kernel_rfl
theorem ze_39 : zeroOf Try.prog 39 = some (.agg #[.int .i64 0, .slice none 0 0]) := by kernel_rfl
theorem fo_39_0 : fieldOff Try.prog 39 0 = some 0 := by kernel_rfl
theorem fo_39_1 : fieldOff Try.prog 39 1 = some 1 := by kernel_rfl
theorem pl_39 : structPlaces Try.prog 39 = some #[(0, 1), (1, 1)] := by kernel_rfl
theorem bl_39 (ps : List (Nat × PV)) : evBuild Try.prog 39 ps = (fillP (plF [(0, 1), (1, 1)]) [.val (.int .i64 0), .val (.slice none 0 0)] ps).map .agg := bl_of ze_39 rfl pl_39 ps
theorem oz_39 : ofVal (.agg #[.int .i64 0, .slice none 0 0]) = .agg [.val (.int .i64 0), .val (.slice none 0 0)] := rfl
theorem ea_39 {Γ : Ctx} (s : AS) (ρ : Operand → PV) : evEff Try.prog Γ s ρ (.alloc 39) = some (.own s.nx 2 0 0, upd s.ob s.nx (some (39, 2, [.agg [.val (.int .i64 0), .val (.slice none 0 0)]])), s.nx + 1) := ea_of ze_39 (by kernel_rfl) rfl rfl s ρ
theorem bz_39 {Γ : Ctx} {ob : Objs} {ρ : Operand → PV} {ty : Nat} : evVal Try.prog Γ ob ρ ty (.build 39 #[]) = some (.agg [.val (.int .i64 0), .val (.slice none 0 0)]) := (show evBuild Try.prog 39 [] = some (.agg [.val (.int .i64 0), .val (.slice none 0 0)]) from by kernel_rfl)
theorem bs_39 : isByteSlice Try.prog 39 = false := by kernel_rfl
theorem is_39 : isStr Try.prog 39 = false := by kernel_rfl
theorem sz_81 : tySize Try.prog 81 = some 4 := by kernel_rfl
theorem ag_81 : tyAgg Try.prog 81 = some true := by kernel_rfl
theorem by_81 : tyBytes Try.prog 81 = some 32 := by kernel_rfl
theorem ze_81 : zeroOf Try.prog 81 = some (.agg #[.int .i64 0, .int .i64 0, .int .i64 0, .int .i64 0]) := by kernel_rfl
theorem fo_81_0 : fieldOff Try.prog 81 0 = some 0 := by kernel_rfl
theorem fo_81_1 : fieldOff Try.prog 81 1 = some 1 := by kernel_rfl
theorem fo_81_2 : fieldOff Try.prog 81 2 = some 2 := by kernel_rfl
theorem fo_81_3 : fieldOff Try.prog 81 3 = some 3 := by kernel_rfl
theorem pl_81 : structPlaces Try.prog 81 = some #[(0, 1), (1, 1), (2, 1), (3, 1)] := by kernel_rfl
theorem bl_81 (ps : List (Nat × PV)) : evBuild Try.prog 81 ps = (fillP (plF [(0, 1), (1, 1), (2, 1), (3, 1)]) [.val (.int .i64 0), .val (.int .i64 0), .val (.int .i64 0), .val (.int .i64 0)] ps).map .agg := bl_of ze_81 rfl pl_81 ps
theorem oz_81 : ofVal (.agg #[.int .i64 0, .int .i64 0, .int .i64 0, .int .i64 0]) = .agg [.val (.int .i64 0), .val (.int .i64 0), .val (.int .i64 0), .val (.int .i64 0)] := rfl
theorem ea_81 {Γ : Ctx} (s : AS) (ρ : Operand → PV) : evEff Try.prog Γ s ρ (.alloc 81) = some (.own s.nx 4 0 0, upd s.ob s.nx (some (81, 4, [.agg [.val (.int .i64 0), .val (.int .i64 0), .val (.int .i64 0), .val (.int .i64 0)]])), s.nx + 1) := ea_of ze_81 (by kernel_rfl) rfl rfl s ρ
theorem bz_81 {Γ : Ctx} {ob : Objs} {ρ : Operand → PV} {ty : Nat} : evVal Try.prog Γ ob ρ ty (.build 81 #[]) = some (.agg [.val (.int .i64 0), .val (.int .i64 0), .val (.int .i64 0), .val (.int .i64 0)]) := (show evBuild Try.prog 81 [] = some (.agg [.val (.int .i64 0), .val (.int .i64 0), .val (.int .i64 0), .val (.int .i64 0)]) from by kernel_rfl)
theorem bs_81 : isByteSlice Try.prog 81 = false := by kernel_rfl
theorem is_81 : isStr Try.prog 81 = false := by kernel_rfl
theorem sz_82 : tySize Try.prog 82 = some 4 := by kernel_rfl
theorem ag_82 : tyAgg Try.prog 82 = some true := by kernel_rfl
theorem by_82 : tyBytes Try.prog 82 = some 32 := by kernel_rfl
theorem ze_82 : zeroOf Try.prog 82 = some (.agg #[.int .i64 0, .int .i64 0, .int .i64 0, .int .i64 0]) := by kernel_rfl
theorem fo_82_0 : fieldOff Try.prog 82 0 = some 0 := by kernel_rfl
theorem fo_82_1 : fieldOff Try.prog 82 1 = some 1 := by kernel_rfl
theorem fo_82_2 : fieldOff Try.prog 82 2 = some 2 := by kernel_rfl
theorem fo_82_3 : fieldOff Try.prog 82 3 = some 3 := by kernel_rfl
theorem pl_82 : structPlaces Try.prog 82 = some #[(0, 1), (1, 1), (2, 1), (3, 1)] := by kernel_rfl
theorem bl_82 (ps : List (Nat × PV)) : evBuild Try.prog 82 ps = (fillP (plF [(0, 1), (1, 1), (2, 1), (3, 1)]) [.val (.int .i64 0), .val (.int .i64 0), .val (.int .i64 0), .val (.int .i64 0)] ps).map .agg := bl_of ze_82 rfl pl_82 ps
theorem oz_82 : ofVal (.agg #[.int .i64 0, .int .i64 0, .int .i64 0, .int .i64 0]) = .agg [.val (.int .i64 0), .val (.int .i64 0), .val (.int .i64 0), .val (.int .i64 0)] := rfl
theorem ea_82 {Γ : Ctx} (s : AS) (ρ : Operand → PV) : evEff Try.prog Γ s ρ (.alloc 82) = some (.own s.nx 4 0 0, upd s.ob s.nx (some (82, 4, [.agg [.val (.int .i64 0), .val (.int .i64 0), .val (.int .i64 0), .val (.int .i64 0)]])), s.nx + 1) := ea_of ze_82 (by kernel_rfl) rfl rfl s ρ
theorem bz_82 {Γ : Ctx} {ob : Objs} {ρ : Operand → PV} {ty : Nat} : evVal Try.prog Γ ob ρ ty (.build 82 #[]) = some (.agg [.val (.int .i64 0), .val (.int .i64 0), .val (.int .i64 0), .val (.int .i64 0)]) := (show evBuild Try.prog 82 [] = some (.agg [.val (.int .i64 0), .val (.int .i64 0), .val (.int .i64 0), .val (.int .i64 0)]) from by kernel_rfl)
theorem fd_82 : Try.prog.underlying 82 = some (.struct (Go.Program.fieldsOf Try.prog 82)) := by kernel_rfl
theorem ef_82 {a0 b0 : Int} {a1 b1 : Int} {a2 b2 : Int} {a3 b3 : Int} : eqFl Try.prog [.int .i64 a0, .int .i64 a1, .int .i64 a2, .int .i64 a3] [.int .i64 b0, .int .i64 b1, .int .i64 b2, .int .i64 b3] (Go.Program.fieldsOf Try.prog 82).toList = some ((a0 == b0) && ((a1 == b1) && ((a2 == b2) && ((a3 == b3) && true)))) := by kernel_rfl
theorem sqeql_82 {x y : Operand} {a0 b0 : Int} {a1 b1 : Int} {a2 b2 : Int} {a3 b3 : Int} : binP Try.prog .eql 82 x y (some (.agg #[.int .i64 a0, .int .i64 a1, .int .i64 a2, .int .i64 a3])) (some (.agg #[.int .i64 b0, .int .i64 b1, .int .i64 b2, .int .i64 b3])) = some (.val (.bool ((a0 == b0) && ((a1 == b1) && ((a2 == b2) && ((a3 == b3) && true)))))) := bp_eqlA fd_82 (by kernel_rfl) (by kernel_rfl) ef_82
theorem sqneq_82 {x y : Operand} {a0 b0 : Int} {a1 b1 : Int} {a2 b2 : Int} {a3 b3 : Int} : binP Try.prog .neq 82 x y (some (.agg #[.int .i64 a0, .int .i64 a1, .int .i64 a2, .int .i64 a3])) (some (.agg #[.int .i64 b0, .int .i64 b1, .int .i64 b2, .int .i64 b3])) = some (.val (.bool (!((a0 == b0) && ((a1 == b1) && ((a2 == b2) && ((a3 == b3) && true))))))) := bp_neqA fd_82 (by kernel_rfl) (by kernel_rfl) ef_82
theorem bs_82 : isByteSlice Try.prog 82 = false := by kernel_rfl
theorem is_82 : isStr Try.prog 82 = false := by kernel_rfl
theorem sz_83 : tySize Try.prog 83 = some 1 := by kernel_rfl
theorem ag_83 : tyAgg Try.prog 83 = some false := by kernel_rfl
theorem by_83 : tyBytes Try.prog 83 = some 8 := by kernel_rfl
theorem ze_83 : zeroOf Try.prog 83 = some (.int .u64 0) := by kernel_rfl
theorem un_83 : Try.prog.underlying 83 = some (.int .u64) := by kernel_rfl
theorem oz_83 : ofVal (.int .u64 0) = .val (.int .u64 0) := rfl
theorem ea_83 {Γ : Ctx} (s : AS) (ρ : Operand → PV) : evEff Try.prog Γ s ρ (.alloc 83) = some (.own s.nx 1 0 0, upd s.ob s.nx (some (83, 1, [.val (.int .u64 0)])), s.nx + 1) := ea_of ze_83 (by kernel_rfl) rfl rfl s ρ
theorem bs_83 : isByteSlice Try.prog 83 = false := by kernel_rfl
theorem is_83 : isStr Try.prog 83 = false := by kernel_rfl
theorem sz_93 : tySize Try.prog 93 = some 2 := by kernel_rfl
theorem ag_93 : tyAgg Try.prog 93 = some true := by kernel_rfl
theorem by_93 : tyBytes Try.prog 93 = some 32 := by kernel_rfl
theorem ze_93 : zeroOf Try.prog 93 = some (.agg #[.slice none 0 0, .int .i64 0]) := by kernel_rfl
theorem fo_93_0 : fieldOff Try.prog 93 0 = some 0 := by kernel_rfl
theorem fo_93_1 : fieldOff Try.prog 93 1 = some 1 := by kernel_rfl
theorem pl_93 : structPlaces Try.prog 93 = some #[(0, 1), (1, 1)] := by kernel_rfl
theorem bl_93 (ps : List (Nat × PV)) : evBuild Try.prog 93 ps = (fillP (plF [(0, 1), (1, 1)]) [.val (.slice none 0 0), .val (.int .i64 0)] ps).map .agg := bl_of ze_93 rfl pl_93 ps
theorem oz_93 : ofVal (.agg #[.slice none 0 0, .int .i64 0]) = .agg [.val (.slice none 0 0), .val (.int .i64 0)] := rfl
theorem ea_93 {Γ : Ctx} (s : AS) (ρ : Operand → PV) : evEff Try.prog Γ s ρ (.alloc 93) = some (.own s.nx 2 0 0, upd s.ob s.nx (some (93, 2, [.agg [.val (.slice none 0 0), .val (.int .i64 0)]])), s.nx + 1) := ea_of ze_93 (by kernel_rfl) rfl rfl s ρ
theorem bz_93 {Γ : Ctx} {ob : Objs} {ρ : Operand → PV} {ty : Nat} : evVal Try.prog Γ ob ρ ty (.build 93 #[]) = some (.agg [.val (.slice none 0 0), .val (.int .i64 0)]) := (show evBuild Try.prog 93 [] = some (.agg [.val (.slice none 0 0), .val (.int .i64 0)]) from by kernel_rfl)
theorem bs_93 : isByteSlice Try.prog 93 = false := by kernel_rfl
theorem is_93 : isStr Try.prog 93 = false := by kernel_rfl
theorem sz_94 : tySize Try.prog 94 = some 2 := by kernel_rfl
theorem ag_94 : tyAgg Try.prog 94 = some true := by kernel_rfl
theorem by_94 : tyBytes Try.prog 94 = some 32 := by kernel_rfl
theorem ze_94 : zeroOf Try.prog 94 = some (.agg #[.slice none 0 0, .int .i64 0]) := by kernel_rfl
theorem fo_94_0 : fieldOff Try.prog 94 0 = some 0 := by kernel_rfl
theorem fo_94_1 : fieldOff Try.prog 94 1 = some 1 := by kernel_rfl
theorem pl_94 : structPlaces Try.prog 94 = some #[(0, 1), (1, 1)] := by kernel_rfl
theorem bl_94 (ps : List (Nat × PV)) : evBuild Try.prog 94 ps = (fillP (plF [(0, 1), (1, 1)]) [.val (.slice none 0 0), .val (.int .i64 0)] ps).map .agg := bl_of ze_94 rfl pl_94 ps
theorem oz_94 : ofVal (.agg #[.slice none 0 0, .int .i64 0]) = .agg [.val (.slice none 0 0), .val (.int .i64 0)] := rfl
theorem ea_94 {Γ : Ctx} (s : AS) (ρ : Operand → PV) : evEff Try.prog Γ s ρ (.alloc 94) = some (.own s.nx 2 0 0, upd s.ob s.nx (some (94, 2, [.agg [.val (.slice none 0 0), .val (.int .i64 0)]])), s.nx + 1) := ea_of ze_94 (by kernel_rfl) rfl rfl s ρ
theorem bz_94 {Γ : Ctx} {ob : Objs} {ρ : Operand → PV} {ty : Nat} : evVal Try.prog Γ ob ρ ty (.build 94 #[]) = some (.agg [.val (.slice none 0 0), .val (.int .i64 0)]) := (show evBuild Try.prog 94 [] = some (.agg [.val (.slice none 0 0), .val (.int .i64 0)]) from by kernel_rfl)
theorem bs_94 : isByteSlice Try.prog 94 = false := by kernel_rfl
theorem is_94 : isStr Try.prog 94 = false := by kernel_rfl
theorem sz_96 : tySize Try.prog 96 = some 1 := by kernel_rfl
theorem ag_96 : tyAgg Try.prog 96 = some false := by kernel_rfl
theorem by_96 : tyBytes Try.prog 96 = some 4 := by kernel_rfl
theorem ze_96 : zeroOf Try.prog 96 = some (.int .u32 0) := by kernel_rfl
theorem un_96 : Try.prog.underlying 96 = some (.int .u32) := by kernel_rfl
theorem oz_96 : ofVal (.int .u32 0) = .val (.int .u32 0) := rfl
theorem ea_96 {Γ : Ctx} (s : AS) (ρ : Operand → PV) : evEff Try.prog Γ s ρ (.alloc 96) = some (.own s.nx 1 0 0, upd s.ob s.nx (some (96, 1, [.val (.int .u32 0)])), s.nx + 1) := ea_of ze_96 (by kernel_rfl) rfl rfl s ρ
theorem bs_96 : isByteSlice Try.prog 96 = false := by kernel_rfl
theorem is_96 : isStr Try.prog 96 = false := by kernel_rfl
theorem sz_99 : tySize Try.prog 99 = some 1 := by kernel_rfl
theorem ag_99 : tyAgg Try.prog 99 = some false := by kernel_rfl
theorem by_99 : tyBytes Try.prog 99 = some 8 := by kernel_rfl
theorem ze_99 : zeroOf Try.prog 99 = some (.int .u64 0) := by kernel_rfl
theorem un_99 : Try.prog.underlying 99 = some (.int .u64) := by kernel_rfl
theorem oz_99 : ofVal (.int .u64 0) = .val (.int .u64 0) := rfl
theorem ea_99 {Γ : Ctx} (s : AS) (ρ : Operand → PV) : evEff Try.prog Γ s ρ (.alloc 99) = some (.own s.nx 1 0 0, upd s.ob s.nx (some (99, 1, [.val (.int .u64 0)])), s.nx + 1) := ea_of ze_99 (by kernel_rfl) rfl rfl s ρ
theorem bs_99 : isByteSlice Try.prog 99 = false := by kernel_rfl
theorem is_99 : isStr Try.prog 99 = false := by kernel_rfl
theorem sz_22 : tySize Try.prog 22 = some 1 := by kernel_rfl
theorem ag_22 : tyAgg Try.prog 22 = some false := by kernel_rfl
theorem by_22 : tyBytes Try.prog 22 = some 24 := by kernel_rfl
theorem ze_22 : zeroOf Try.prog 22 = some (.slice none 0 0) := by kernel_rfl
theorem un_22 : Try.prog.underlying 22 = some (.slice 5) := by kernel_rfl
theorem el_22 : tyElem Try.prog 22 = some 5 := by kernel_rfl
theorem ix_22 {k : Bool} {es : List PV} {i : Int} (h0 : 0 ≤ i) (h1 : i < (es.length : Int)) : evIndexAddr Try.prog 22 (.lst k 1 es) i = some (.ptr k ((es[i.toNat]?).getD .dead) 0) := ix_lst un_22 sz_5 h0 h1
theorem ixr_22 {o j n : Nat} {i : Int} (h0 : 0 ≤ i) (h1 : i < (n : Int)) : evIndexAddr Try.prog 22 (.row o 1 j n) i = some (.own o 1 (j + i.toNat) 0) := ix_row un_22 sz_5 h0 h1
theorem sl_22 {k : Bool} {es : List PV} {lo hi : Option Int} (h0 : 0 ≤ lo.getD 0) (h1 : lo.getD 0 ≤ hi.getD es.length) (h2 : hi.getD es.length ≤ es.length) : evSlice Try.prog 22 (.lst k 1 es) lo hi = some (.lst k 1 ((es.drop (lo.getD 0).toNat).take ((hi.getD es.length).toNat - (lo.getD 0).toNat))) := sl_lst un_22 sz_5 h0 h1 h2
theorem slr_22 {o i n : Nat} {lo hi : Option Int} (h0 : 0 ≤ lo.getD 0) (h1 : lo.getD 0 < hi.getD n) (h2 : hi.getD n ≤ n) : evSlice Try.prog 22 (.row o 1 i n) lo hi = some (.row o 1 (i + (lo.getD 0).toNat) ((hi.getD n).toNat - (lo.getD 0).toNat)) := sl_rowlt un_22 sz_5 h0 h1 h2
theorem sle_22 {o i n : Nat} {lo hi : Option Int} (h0 : 0 ≤ lo.getD 0) (h1 : lo.getD 0 = hi.getD n) (h2 : hi.getD n ≤ n) : evSlice Try.prog 22 (.row o 1 i n) lo hi = some (.lst true 1 []) := sl_roweq un_22 sz_5 h0 h1 h2
theorem lpl_22 {ty sz : Nat} {k : Bool} {es : List PV} : lenP Try.prog 22 ty (.lst k sz es) = some (.val (.int .i64 es.length)) := lp_lst el_22
theorem lpr_22 {ty o sz i n : Nat} : lenP Try.prog 22 ty (.row o sz i n) = some (.val (.int .i64 n)) := lp_row el_22
theorem lpn_22 {ty : Nat} : lenP Try.prog 22 ty (.val (.slice none 0 0)) = some (.val (.int .i64 0)) := lp_nil un_22
theorem oz_22 : ofVal (.slice none 0 0) = .val (.slice none 0 0) := rfl
theorem ea_22 {Γ : Ctx} (s : AS) (ρ : Operand → PV) : evEff Try.prog Γ s ρ (.alloc 22) = some (.own s.nx 1 0 0, upd s.ob s.nx (some (22, 1, [.val (.slice none 0 0)])), s.nx + 1) := ea_of ze_22 (by kernel_rfl) rfl rfl s ρ
theorem em_22 {Γ : Ctx} (s : AS) (ρ : Operand → PV) (l c : Operand) : evEff Try.prog Γ s ρ (.makeSlice 22 l c) = mkEv 5 1 1 (.int .u8 0) s (ρ l) (ρ c) := em_of el_22 ze_5 sz_5 by_5 (by kernel_rfl) rfl s ρ l c
theorem eap_22 {Γ : Ctx} (s : AS) (ρ : Operand → PV) (x y : Operand) : evEff Try.prog Γ s ρ (.call { callee := .builtin .append, args := #[x, y], argTypes := #[22, 22] }) = apEv 5 1 1 s.nx s.ob (ρ x) (obOf s.ob (ρ x)) (sliceEs s.ob 1 (ρ y)) := eap_of el_22 ze_5 sz_5 by_5 (by decide) rfl s ρ x y
theorem ecp_22 {Γ : Ctx} (s : AS) (ρ : Operand → PV) (x y : Operand) (t' : Nat) : evEff Try.prog Γ s ρ (.call { callee := .builtin .copy, args := #[x, y], argTypes := #[22, t'] }) = cpX 1 s.nx s.ob (ρ x) (obOf s.ob (ρ x)) (srcEs s.ob 1 (ρ y)) := ecp_of el_22 sz_5 s ρ x y t'
theorem bs_22 : isByteSlice Try.prog 22 = true := by kernel_rfl
theorem is_22 : isStr Try.prog 22 = false := by kernel_rfl
theorem sz_29 : tySize Try.prog 29 = some 1 := by kernel_rfl
theorem ag_29 : tyAgg Try.prog 29 = some false := by kernel_rfl
theorem by_29 : tyBytes Try.prog 29 = some 24 := by kernel_rfl
theorem ze_29 : zeroOf Try.prog 29 = some (.slice none 0 0) := by kernel_rfl
theorem un_29 : Try.prog.underlying 29 = some (.slice 9) := by kernel_rfl
theorem el_29 : tyElem Try.prog 29 = some 9 := by kernel_rfl
theorem ix_29 {k : Bool} {es : List PV} {i : Int} (h0 : 0 ≤ i) (h1 : i < (es.length : Int)) : evIndexAddr Try.prog 29 (.lst k 1 es) i = some (.ptr k ((es[i.toNat]?).getD .dead) 0) := ix_lst un_29 sz_9 h0 h1
theorem ixr_29 {o j n : Nat} {i : Int} (h0 : 0 ≤ i) (h1 : i < (n : Int)) : evIndexAddr Try.prog 29 (.row o 1 j n) i = some (.own o 1 (j + i.toNat) 0) := ix_row un_29 sz_9 h0 h1
theorem sl_29 {k : Bool} {es : List PV} {lo hi : Option Int} (h0 : 0 ≤ lo.getD 0) (h1 : lo.getD 0 ≤ hi.getD es.length) (h2 : hi.getD es.length ≤ es.length) : evSlice Try.prog 29 (.lst k 1 es) lo hi = some (.lst k 1 ((es.drop (lo.getD 0).toNat).take ((hi.getD es.length).toNat - (lo.getD 0).toNat))) := sl_lst un_29 sz_9 h0 h1 h2
theorem slr_29 {o i n : Nat} {lo hi : Option Int} (h0 : 0 ≤ lo.getD 0) (h1 : lo.getD 0 < hi.getD n) (h2 : hi.getD n ≤ n) : evSlice Try.prog 29 (.row o 1 i n) lo hi = some (.row o 1 (i + (lo.getD 0).toNat) ((hi.getD n).toNat - (lo.getD 0).toNat)) := sl_rowlt un_29 sz_9 h0 h1 h2
theorem sle_29 {o i n : Nat} {lo hi : Option Int} (h0 : 0 ≤ lo.getD 0) (h1 : lo.getD 0 = hi.getD n) (h2 : hi.getD n ≤ n) : evSlice Try.prog 29 (.row o 1 i n) lo hi = some (.lst true 1 []) := sl_roweq un_29 sz_9 h0 h1 h2
theorem lpl_29 {ty sz : Nat} {k : Bool} {es : List PV} : lenP Try.prog 29 ty (.lst k sz es) = some (.val (.int .i64 es.length)) := lp_lst el_29
theorem lpr_29 {ty o sz i n : Nat} : lenP Try.prog 29 ty (.row o sz i n) = some (.val (.int .i64 n)) := lp_row el_29
theorem lpn_29 {ty : Nat} : lenP Try.prog 29 ty (.val (.slice none 0 0)) = some (.val (.int .i64 0)) := lp_nil un_29
theorem oz_29 : ofVal (.slice none 0 0) = .val (.slice none 0 0) := rfl
theorem ea_29 {Γ : Ctx} (s : AS) (ρ : Operand → PV) : evEff Try.prog Γ s ρ (.alloc 29) = some (.own s.nx 1 0 0, upd s.ob s.nx (some (29, 1, [.val (.slice none 0 0)])), s.nx + 1) := ea_of ze_29 (by kernel_rfl) rfl rfl s ρ
theorem em_29 {Γ : Ctx} (s : AS) (ρ : Operand → PV) (l c : Operand) : evEff Try.prog Γ s ρ (.makeSlice 29 l c) = mkEv 9 1 16 (.string ByteArray.empty) s (ρ l) (ρ c) := em_of el_29 ze_9 sz_9 by_9 (by kernel_rfl) rfl s ρ l c
theorem eap_29 {Γ : Ctx} (s : AS) (ρ : Operand → PV) (x y : Operand) : evEff Try.prog Γ s ρ (.call { callee := .builtin .append, args := #[x, y], argTypes := #[29, 29] }) = apEv 9 1 16 s.nx s.ob (ρ x) (obOf s.ob (ρ x)) (sliceEs s.ob 1 (ρ y)) := eap_of el_29 ze_9 sz_9 by_9 (by decide) rfl s ρ x y
theorem ecp_29 {Γ : Ctx} (s : AS) (ρ : Operand → PV) (x y : Operand) (t' : Nat) : evEff Try.prog Γ s ρ (.call { callee := .builtin .copy, args := #[x, y], argTypes := #[29, t'] }) = cpX 1 s.nx s.ob (ρ x) (obOf s.ob (ρ x)) (srcEs s.ob 1 (ρ y)) := ecp_of el_29 sz_9 s ρ x y t'
theorem bs_29 : isByteSlice Try.prog 29 = false := by kernel_rfl
theorem is_29 : isStr Try.prog 29 = false := by kernel_rfl
theorem sz_31 : tySize Try.prog 31 = some 1 := by kernel_rfl
theorem ag_31 : tyAgg Try.prog 31 = some false := by kernel_rfl
theorem by_31 : tyBytes Try.prog 31 = some 24 := by kernel_rfl
theorem ze_31 : zeroOf Try.prog 31 = some (.slice none 0 0) := by kernel_rfl
theorem un_31 : Try.prog.underlying 31 = some (.slice 3) := by kernel_rfl
theorem el_31 : tyElem Try.prog 31 = some 3 := by kernel_rfl
theorem ix_31 {k : Bool} {es : List PV} {i : Int} (h0 : 0 ≤ i) (h1 : i < (es.length : Int)) : evIndexAddr Try.prog 31 (.lst k 1 es) i = some (.ptr k ((es[i.toNat]?).getD .dead) 0) := ix_lst un_31 sz_3 h0 h1
theorem ixr_31 {o j n : Nat} {i : Int} (h0 : 0 ≤ i) (h1 : i < (n : Int)) : evIndexAddr Try.prog 31 (.row o 1 j n) i = some (.own o 1 (j + i.toNat) 0) := ix_row un_31 sz_3 h0 h1
theorem sl_31 {k : Bool} {es : List PV} {lo hi : Option Int} (h0 : 0 ≤ lo.getD 0) (h1 : lo.getD 0 ≤ hi.getD es.length) (h2 : hi.getD es.length ≤ es.length) : evSlice Try.prog 31 (.lst k 1 es) lo hi = some (.lst k 1 ((es.drop (lo.getD 0).toNat).take ((hi.getD es.length).toNat - (lo.getD 0).toNat))) := sl_lst un_31 sz_3 h0 h1 h2
theorem slr_31 {o i n : Nat} {lo hi : Option Int} (h0 : 0 ≤ lo.getD 0) (h1 : lo.getD 0 < hi.getD n) (h2 : hi.getD n ≤ n) : evSlice Try.prog 31 (.row o 1 i n) lo hi = some (.row o 1 (i + (lo.getD 0).toNat) ((hi.getD n).toNat - (lo.getD 0).toNat)) := sl_rowlt un_31 sz_3 h0 h1 h2
theorem sle_31 {o i n : Nat} {lo hi : Option Int} (h0 : 0 ≤ lo.getD 0) (h1 : lo.getD 0 = hi.getD n) (h2 : hi.getD n ≤ n) : evSlice Try.prog 31 (.row o 1 i n) lo hi = some (.lst true 1 []) := sl_roweq un_31 sz_3 h0 h1 h2
theorem lpl_31 {ty sz : Nat} {k : Bool} {es : List PV} : lenP Try.prog 31 ty (.lst k sz es) = some (.val (.int .i64 es.length)) := lp_lst el_31
theorem lpr_31 {ty o sz i n : Nat} : lenP Try.prog 31 ty (.row o sz i n) = some (.val (.int .i64 n)) := lp_row el_31
theorem lpn_31 {ty : Nat} : lenP Try.prog 31 ty (.val (.slice none 0 0)) = some (.val (.int .i64 0)) := lp_nil un_31
theorem oz_31 : ofVal (.slice none 0 0) = .val (.slice none 0 0) := rfl
theorem ea_31 {Γ : Ctx} (s : AS) (ρ : Operand → PV) : evEff Try.prog Γ s ρ (.alloc 31) = some (.own s.nx 1 0 0, upd s.ob s.nx (some (31, 1, [.val (.slice none 0 0)])), s.nx + 1) := ea_of ze_31 (by kernel_rfl) rfl rfl s ρ
theorem em_31 {Γ : Ctx} (s : AS) (ρ : Operand → PV) (l c : Operand) : evEff Try.prog Γ s ρ (.makeSlice 31 l c) = mkEv 3 1 8 (.int .i64 0) s (ρ l) (ρ c) := em_of el_31 ze_3 sz_3 by_3 (by kernel_rfl) rfl s ρ l c
theorem eap_31 {Γ : Ctx} (s : AS) (ρ : Operand → PV) (x y : Operand) : evEff Try.prog Γ s ρ (.call { callee := .builtin .append, args := #[x, y], argTypes := #[31, 31] }) = apEv 3 1 8 s.nx s.ob (ρ x) (obOf s.ob (ρ x)) (sliceEs s.ob 1 (ρ y)) := eap_of el_31 ze_3 sz_3 by_3 (by decide) rfl s ρ x y
theorem ecp_31 {Γ : Ctx} (s : AS) (ρ : Operand → PV) (x y : Operand) (t' : Nat) : evEff Try.prog Γ s ρ (.call { callee := .builtin .copy, args := #[x, y], argTypes := #[31, t'] }) = cpX 1 s.nx s.ob (ρ x) (obOf s.ob (ρ x)) (srcEs s.ob 1 (ρ y)) := ecp_of el_31 sz_3 s ρ x y t'
theorem bs_31 : isByteSlice Try.prog 31 = false := by kernel_rfl
theorem is_31 : isStr Try.prog 31 = false := by kernel_rfl
theorem cvi_2_2 {k : IntKind} {n : Int} {es : Option (List PV)} : convP Try.prog 2 2 false es (some (.int k n)) = some (.val (.int .i64 (IntKind.i64.wrap n))) := cv_int un_2 un_2
theorem cvi_2_3 {k : IntKind} {n : Int} {es : Option (List PV)} : convP Try.prog 2 3 false es (some (.int k n)) = some (.val (.int .i64 (IntKind.i64.wrap n))) := cv_int un_2 un_3
theorem cvi_2_5 {k : IntKind} {n : Int} {es : Option (List PV)} : convP Try.prog 2 5 false es (some (.int k n)) = some (.val (.int .u8 (IntKind.u8.wrap n))) := cv_int un_2 un_5
theorem cvi_2_12 {k : IntKind} {n : Int} {es : Option (List PV)} : convP Try.prog 2 12 false es (some (.int k n)) = some (.val (.int .u64 (IntKind.u64.wrap n))) := cv_int un_2 un_12
theorem cvi_2_21 {k : IntKind} {n : Int} {es : Option (List PV)} : convP Try.prog 2 21 false es (some (.int k n)) = some (.val (.int .i32 (IntKind.i32.wrap n))) := cv_int un_2 un_21
theorem cvi_2_83 {k : IntKind} {n : Int} {es : Option (List PV)} : convP Try.prog 2 83 false es (some (.int k n)) = some (.val (.int .u64 (IntKind.u64.wrap n))) := cv_int un_2 un_83
theorem cvi_2_96 {k : IntKind} {n : Int} {es : Option (List PV)} : convP Try.prog 2 96 false es (some (.int k n)) = some (.val (.int .u32 (IntKind.u32.wrap n))) := cv_int un_2 un_96
theorem cvi_2_99 {k : IntKind} {n : Int} {es : Option (List PV)} : convP Try.prog 2 99 false es (some (.int k n)) = some (.val (.int .u64 (IntKind.u64.wrap n))) := cv_int un_2 un_99
theorem cvi_3_2 {k : IntKind} {n : Int} {es : Option (List PV)} : convP Try.prog 3 2 false es (some (.int k n)) = some (.val (.int .i64 (IntKind.i64.wrap n))) := cv_int un_3 un_2
theorem cvi_3_3 {k : IntKind} {n : Int} {es : Option (List PV)} : convP Try.prog 3 3 false es (some (.int k n)) = some (.val (.int .i64 (IntKind.i64.wrap n))) := cv_int un_3 un_3
theorem cvi_3_5 {k : IntKind} {n : Int} {es : Option (List PV)} : convP Try.prog 3 5 false es (some (.int k n)) = some (.val (.int .u8 (IntKind.u8.wrap n))) := cv_int un_3 un_5
theorem cvi_3_12 {k : IntKind} {n : Int} {es : Option (List PV)} : convP Try.prog 3 12 false es (some (.int k n)) = some (.val (.int .u64 (IntKind.u64.wrap n))) := cv_int un_3 un_12
theorem cvi_3_21 {k : IntKind} {n : Int} {es : Option (List PV)} : convP Try.prog 3 21 false es (some (.int k n)) = some (.val (.int .i32 (IntKind.i32.wrap n))) := cv_int un_3 un_21
theorem cvi_3_83 {k : IntKind} {n : Int} {es : Option (List PV)} : convP Try.prog 3 83 false es (some (.int k n)) = some (.val (.int .u64 (IntKind.u64.wrap n))) := cv_int un_3 un_83
theorem cvi_3_96 {k : IntKind} {n : Int} {es : Option (List PV)} : convP Try.prog 3 96 false es (some (.int k n)) = some (.val (.int .u32 (IntKind.u32.wrap n))) := cv_int un_3 un_96
theorem cvi_3_99 {k : IntKind} {n : Int} {es : Option (List PV)} : convP Try.prog 3 99 false es (some (.int k n)) = some (.val (.int .u64 (IntKind.u64.wrap n))) := cv_int un_3 un_99
theorem cvi_5_2 {k : IntKind} {n : Int} {es : Option (List PV)} : convP Try.prog 5 2 false es (some (.int k n)) = some (.val (.int .i64 (IntKind.i64.wrap n))) := cv_int un_5 un_2
theorem cvi_5_3 {k : IntKind} {n : Int} {es : Option (List PV)} : convP Try.prog 5 3 false es (some (.int k n)) = some (.val (.int .i64 (IntKind.i64.wrap n))) := cv_int un_5 un_3
theorem cvi_5_5 {k : IntKind} {n : Int} {es : Option (List PV)} : convP Try.prog 5 5 false es (some (.int k n)) = some (.val (.int .u8 (IntKind.u8.wrap n))) := cv_int un_5 un_5
theorem cvi_5_12 {k : IntKind} {n : Int} {es : Option (List PV)} : convP Try.prog 5 12 false es (some (.int k n)) = some (.val (.int .u64 (IntKind.u64.wrap n))) := cv_int un_5 un_12
theorem cvi_5_21 {k : IntKind} {n : Int} {es : Option (List PV)} : convP Try.prog 5 21 false es (some (.int k n)) = some (.val (.int .i32 (IntKind.i32.wrap n))) := cv_int un_5 un_21
theorem cvi_5_83 {k : IntKind} {n : Int} {es : Option (List PV)} : convP Try.prog 5 83 false es (some (.int k n)) = some (.val (.int .u64 (IntKind.u64.wrap n))) := cv_int un_5 un_83
theorem cvi_5_96 {k : IntKind} {n : Int} {es : Option (List PV)} : convP Try.prog 5 96 false es (some (.int k n)) = some (.val (.int .u32 (IntKind.u32.wrap n))) := cv_int un_5 un_96
theorem cvi_5_99 {k : IntKind} {n : Int} {es : Option (List PV)} : convP Try.prog 5 99 false es (some (.int k n)) = some (.val (.int .u64 (IntKind.u64.wrap n))) := cv_int un_5 un_99
theorem cvi_12_2 {k : IntKind} {n : Int} {es : Option (List PV)} : convP Try.prog 12 2 false es (some (.int k n)) = some (.val (.int .i64 (IntKind.i64.wrap n))) := cv_int un_12 un_2
theorem cvi_12_3 {k : IntKind} {n : Int} {es : Option (List PV)} : convP Try.prog 12 3 false es (some (.int k n)) = some (.val (.int .i64 (IntKind.i64.wrap n))) := cv_int un_12 un_3
theorem cvi_12_5 {k : IntKind} {n : Int} {es : Option (List PV)} : convP Try.prog 12 5 false es (some (.int k n)) = some (.val (.int .u8 (IntKind.u8.wrap n))) := cv_int un_12 un_5
theorem cvi_12_12 {k : IntKind} {n : Int} {es : Option (List PV)} : convP Try.prog 12 12 false es (some (.int k n)) = some (.val (.int .u64 (IntKind.u64.wrap n))) := cv_int un_12 un_12
theorem cvi_12_21 {k : IntKind} {n : Int} {es : Option (List PV)} : convP Try.prog 12 21 false es (some (.int k n)) = some (.val (.int .i32 (IntKind.i32.wrap n))) := cv_int un_12 un_21
theorem cvi_12_83 {k : IntKind} {n : Int} {es : Option (List PV)} : convP Try.prog 12 83 false es (some (.int k n)) = some (.val (.int .u64 (IntKind.u64.wrap n))) := cv_int un_12 un_83
theorem cvi_12_96 {k : IntKind} {n : Int} {es : Option (List PV)} : convP Try.prog 12 96 false es (some (.int k n)) = some (.val (.int .u32 (IntKind.u32.wrap n))) := cv_int un_12 un_96
theorem cvi_12_99 {k : IntKind} {n : Int} {es : Option (List PV)} : convP Try.prog 12 99 false es (some (.int k n)) = some (.val (.int .u64 (IntKind.u64.wrap n))) := cv_int un_12 un_99
theorem cvi_21_2 {k : IntKind} {n : Int} {es : Option (List PV)} : convP Try.prog 21 2 false es (some (.int k n)) = some (.val (.int .i64 (IntKind.i64.wrap n))) := cv_int un_21 un_2
theorem cvi_21_3 {k : IntKind} {n : Int} {es : Option (List PV)} : convP Try.prog 21 3 false es (some (.int k n)) = some (.val (.int .i64 (IntKind.i64.wrap n))) := cv_int un_21 un_3
theorem cvi_21_5 {k : IntKind} {n : Int} {es : Option (List PV)} : convP Try.prog 21 5 false es (some (.int k n)) = some (.val (.int .u8 (IntKind.u8.wrap n))) := cv_int un_21 un_5
theorem cvi_21_12 {k : IntKind} {n : Int} {es : Option (List PV)} : convP Try.prog 21 12 false es (some (.int k n)) = some (.val (.int .u64 (IntKind.u64.wrap n))) := cv_int un_21 un_12
theorem cvi_21_21 {k : IntKind} {n : Int} {es : Option (List PV)} : convP Try.prog 21 21 false es (some (.int k n)) = some (.val (.int .i32 (IntKind.i32.wrap n))) := cv_int un_21 un_21
theorem cvi_21_83 {k : IntKind} {n : Int} {es : Option (List PV)} : convP Try.prog 21 83 false es (some (.int k n)) = some (.val (.int .u64 (IntKind.u64.wrap n))) := cv_int un_21 un_83
theorem cvi_21_96 {k : IntKind} {n : Int} {es : Option (List PV)} : convP Try.prog 21 96 false es (some (.int k n)) = some (.val (.int .u32 (IntKind.u32.wrap n))) := cv_int un_21 un_96
theorem cvi_21_99 {k : IntKind} {n : Int} {es : Option (List PV)} : convP Try.prog 21 99 false es (some (.int k n)) = some (.val (.int .u64 (IntKind.u64.wrap n))) := cv_int un_21 un_99
theorem cvi_83_2 {k : IntKind} {n : Int} {es : Option (List PV)} : convP Try.prog 83 2 false es (some (.int k n)) = some (.val (.int .i64 (IntKind.i64.wrap n))) := cv_int un_83 un_2
theorem cvi_83_3 {k : IntKind} {n : Int} {es : Option (List PV)} : convP Try.prog 83 3 false es (some (.int k n)) = some (.val (.int .i64 (IntKind.i64.wrap n))) := cv_int un_83 un_3
theorem cvi_83_5 {k : IntKind} {n : Int} {es : Option (List PV)} : convP Try.prog 83 5 false es (some (.int k n)) = some (.val (.int .u8 (IntKind.u8.wrap n))) := cv_int un_83 un_5
theorem cvi_83_12 {k : IntKind} {n : Int} {es : Option (List PV)} : convP Try.prog 83 12 false es (some (.int k n)) = some (.val (.int .u64 (IntKind.u64.wrap n))) := cv_int un_83 un_12
theorem cvi_83_21 {k : IntKind} {n : Int} {es : Option (List PV)} : convP Try.prog 83 21 false es (some (.int k n)) = some (.val (.int .i32 (IntKind.i32.wrap n))) := cv_int un_83 un_21
theorem cvi_83_83 {k : IntKind} {n : Int} {es : Option (List PV)} : convP Try.prog 83 83 false es (some (.int k n)) = some (.val (.int .u64 (IntKind.u64.wrap n))) := cv_int un_83 un_83
theorem cvi_83_96 {k : IntKind} {n : Int} {es : Option (List PV)} : convP Try.prog 83 96 false es (some (.int k n)) = some (.val (.int .u32 (IntKind.u32.wrap n))) := cv_int un_83 un_96
theorem cvi_83_99 {k : IntKind} {n : Int} {es : Option (List PV)} : convP Try.prog 83 99 false es (some (.int k n)) = some (.val (.int .u64 (IntKind.u64.wrap n))) := cv_int un_83 un_99
theorem cvi_96_2 {k : IntKind} {n : Int} {es : Option (List PV)} : convP Try.prog 96 2 false es (some (.int k n)) = some (.val (.int .i64 (IntKind.i64.wrap n))) := cv_int un_96 un_2
theorem cvi_96_3 {k : IntKind} {n : Int} {es : Option (List PV)} : convP Try.prog 96 3 false es (some (.int k n)) = some (.val (.int .i64 (IntKind.i64.wrap n))) := cv_int un_96 un_3
theorem cvi_96_5 {k : IntKind} {n : Int} {es : Option (List PV)} : convP Try.prog 96 5 false es (some (.int k n)) = some (.val (.int .u8 (IntKind.u8.wrap n))) := cv_int un_96 un_5
theorem cvi_96_12 {k : IntKind} {n : Int} {es : Option (List PV)} : convP Try.prog 96 12 false es (some (.int k n)) = some (.val (.int .u64 (IntKind.u64.wrap n))) := cv_int un_96 un_12
theorem cvi_96_21 {k : IntKind} {n : Int} {es : Option (List PV)} : convP Try.prog 96 21 false es (some (.int k n)) = some (.val (.int .i32 (IntKind.i32.wrap n))) := cv_int un_96 un_21
theorem cvi_96_83 {k : IntKind} {n : Int} {es : Option (List PV)} : convP Try.prog 96 83 false es (some (.int k n)) = some (.val (.int .u64 (IntKind.u64.wrap n))) := cv_int un_96 un_83
theorem cvi_96_96 {k : IntKind} {n : Int} {es : Option (List PV)} : convP Try.prog 96 96 false es (some (.int k n)) = some (.val (.int .u32 (IntKind.u32.wrap n))) := cv_int un_96 un_96
theorem cvi_96_99 {k : IntKind} {n : Int} {es : Option (List PV)} : convP Try.prog 96 99 false es (some (.int k n)) = some (.val (.int .u64 (IntKind.u64.wrap n))) := cv_int un_96 un_99
theorem cvi_99_2 {k : IntKind} {n : Int} {es : Option (List PV)} : convP Try.prog 99 2 false es (some (.int k n)) = some (.val (.int .i64 (IntKind.i64.wrap n))) := cv_int un_99 un_2
theorem cvi_99_3 {k : IntKind} {n : Int} {es : Option (List PV)} : convP Try.prog 99 3 false es (some (.int k n)) = some (.val (.int .i64 (IntKind.i64.wrap n))) := cv_int un_99 un_3
theorem cvi_99_5 {k : IntKind} {n : Int} {es : Option (List PV)} : convP Try.prog 99 5 false es (some (.int k n)) = some (.val (.int .u8 (IntKind.u8.wrap n))) := cv_int un_99 un_5
theorem cvi_99_12 {k : IntKind} {n : Int} {es : Option (List PV)} : convP Try.prog 99 12 false es (some (.int k n)) = some (.val (.int .u64 (IntKind.u64.wrap n))) := cv_int un_99 un_12
theorem cvi_99_21 {k : IntKind} {n : Int} {es : Option (List PV)} : convP Try.prog 99 21 false es (some (.int k n)) = some (.val (.int .i32 (IntKind.i32.wrap n))) := cv_int un_99 un_21
theorem cvi_99_83 {k : IntKind} {n : Int} {es : Option (List PV)} : convP Try.prog 99 83 false es (some (.int k n)) = some (.val (.int .u64 (IntKind.u64.wrap n))) := cv_int un_99 un_83
theorem cvi_99_96 {k : IntKind} {n : Int} {es : Option (List PV)} : convP Try.prog 99 96 false es (some (.int k n)) = some (.val (.int .u32 (IntKind.u32.wrap n))) := cv_int un_99 un_96
theorem cvi_99_99 {k : IntKind} {n : Int} {es : Option (List PV)} : convP Try.prog 99 99 false es (some (.int k n)) = some (.val (.int .u64 (IntKind.u64.wrap n))) := cv_int un_99 un_99
theorem rw_22_0 : rowEs Try.prog 22 0 [] = rowC 5 1 [] (true) := rw_of el_22 sz_5 ze_5 _ (by decide) (by decide) rfl
theorem rw_22_1 {a0 : PV} : rowEs Try.prog 22 1 [(0, a0)] = rowC 5 1 [a0] (okP 1 a0 && (true)) := rw_of el_22 sz_5 ze_5 _ (by decide) (by decide) rfl
theorem rw_29_0 : rowEs Try.prog 29 0 [] = rowC 9 1 [] (true) := rw_of el_29 sz_9 ze_9 _ (by decide) (by decide) rfl
theorem rw_29_1 {a0 : PV} : rowEs Try.prog 29 1 [(0, a0)] = rowC 9 1 [a0] (okP 1 a0 && (true)) := rw_of el_29 sz_9 ze_9 _ (by decide) (by decide) rfl
theorem rw_29_5 {a0 a1 a2 a3 a4 : PV} : rowEs Try.prog 29 5 [(0, a0), (1, a1), (2, a2), (3, a3), (4, a4)] = rowC 9 1 [a0, a1, a2, a3, a4] (okP 1 a0 && (okP 1 a1 && (okP 1 a2 && (okP 1 a3 && (okP 1 a4 && (true)))))) := rw_of el_29 sz_9 ze_9 _ (by decide) (by decide) rfl
theorem rw_29_12 {a0 a1 a2 a3 a4 a5 a6 a7 a8 a9 a10 a11 : PV} : rowEs Try.prog 29 12 [(0, a0), (1, a1), (2, a2), (3, a3), (4, a4), (5, a5), (6, a6), (7, a7), (8, a8), (9, a9), (10, a10), (11, a11)] = rowC 9 1 [a0, a1, a2, a3, a4, a5, a6, a7, a8, a9, a10, a11] (okP 1 a0 && (okP 1 a1 && (okP 1 a2 && (okP 1 a3 && (okP 1 a4 && (okP 1 a5 && (okP 1 a6 && (okP 1 a7 && (okP 1 a8 && (okP 1 a9 && (okP 1 a10 && (okP 1 a11 && (true))))))))))))) := rw_of el_29 sz_9 ze_9 _ (by decide) (by decide) rfl
theorem rw_31_0 : rowEs Try.prog 31 0 [] = rowC 3 1 [] (true) := rw_of el_31 sz_3 ze_3 _ (by decide) (by decide) rfl
theorem rw_31_1 {a0 : PV} : rowEs Try.prog 31 1 [(0, a0)] = rowC 3 1 [a0] (okP 1 a0 && (true)) := rw_of el_31 sz_3 ze_3 _ (by decide) (by decide) rfl
theorem rw_31_4 {a0 a1 a2 a3 : PV} : rowEs Try.prog 31 4 [(0, a0), (1, a1), (2, a2), (3, a3)] = rowC 3 1 [a0, a1, a2, a3] (okP 1 a0 && (okP 1 a1 && (okP 1 a2 && (okP 1 a3 && (true))))) := rw_of el_31 sz_3 ze_3 _ (by decide) (by decide) rfl
theorem rw_31_7 {a0 a1 a2 a3 a4 a5 a6 : PV} : rowEs Try.prog 31 7 [(0, a0), (1, a1), (2, a2), (3, a3), (4, a4), (5, a5), (6, a6)] = rowC 3 1 [a0, a1, a2, a3, a4, a5, a6] (okP 1 a0 && (okP 1 a1 && (okP 1 a2 && (okP 1 a3 && (okP 1 a4 && (okP 1 a5 && (okP 1 a6 && (true)))))))) := rw_of el_31 sz_3 ze_3 _ (by decide) (by decide) rfl
theorem mixed : Try.prog.follows .mixedOrders = true := by kernel_rfl
attribute [push_cast high]
  bz_7
  bz_13
  bz_23
  bz_24
  bz_39
  bz_81
  bz_82
  bz_93
  bz_94
attribute [push_cast]
  sz_2
  ag_2
  by_2
  ze_2
  un_2
  oz_2
  ea_2
  bs_2
  is_2
  sz_3
  ag_3
  by_3
  ze_3
  un_3
  oz_3
  ea_3
  bs_3
  is_3
  sz_4
  ag_4
  by_4
  ze_4
  un_4
  bqe_4
  bqn_4
  oz_4
  ea_4
  bs_4
  is_4
  sz_5
  ag_5
  by_5
  ze_5
  un_5
  oz_5
  ea_5
  bs_5
  is_5
  sz_7
  ag_7
  by_7
  ze_7
  fo_7_0
  fo_7_1
  fo_7_2
  fo_7_3
  pl_7
  bl_7
  oz_7
  ea_7
  bs_7
  is_7
  sz_9
  ag_9
  by_9
  ze_9
  un_9
  lps_9
  ixs_9
  oz_9
  ea_9
  bs_9
  is_9
  sz_12
  ag_12
  by_12
  ze_12
  un_12
  oz_12
  ea_12
  bs_12
  is_12
  sz_13
  ag_13
  by_13
  ze_13
  fo_13_0
  fo_13_1
  pl_13
  bl_13
  oz_13
  ea_13
  bs_13
  is_13
  sz_21
  ag_21
  by_21
  ze_21
  un_21
  oz_21
  ea_21
  bs_21
  is_21
  sz_23
  ag_23
  by_23
  ze_23
  fo_23_0
  fo_23_1
  pl_23
  bl_23
  oz_23
  ea_23
  bs_23
  is_23
  sz_24
  ag_24
  by_24
  ze_24
  fo_24_0
  fo_24_1
  pl_24
  bl_24
  oz_24
  ea_24
  bs_24
  is_24
  sz_39
  ag_39
  by_39
  ze_39
  fo_39_0
  fo_39_1
  pl_39
  bl_39
  oz_39
  ea_39
  bs_39
  is_39
  sz_81
  ag_81
  by_81
  ze_81
  fo_81_0
  fo_81_1
  fo_81_2
  fo_81_3
  pl_81
  bl_81
  oz_81
  ea_81
  bs_81
  is_81
  sz_82
  ag_82
  by_82
  ze_82
  fo_82_0
  fo_82_1
  fo_82_2
  fo_82_3
  pl_82
  bl_82
  oz_82
  ea_82
  sqeql_82
  sqneq_82
  bs_82
  is_82
  sz_83
  ag_83
  by_83
  ze_83
  un_83
  oz_83
  ea_83
  bs_83
  is_83
  sz_93
  ag_93
  by_93
  ze_93
  fo_93_0
  fo_93_1
  pl_93
  bl_93
  oz_93
  ea_93
  bs_93
  is_93
  sz_94
  ag_94
  by_94
  ze_94
  fo_94_0
  fo_94_1
  pl_94
  bl_94
  oz_94
  ea_94
  bs_94
  is_94
  sz_96
  ag_96
  by_96
  ze_96
  un_96
  oz_96
  ea_96
  bs_96
  is_96
  sz_99
  ag_99
  by_99
  ze_99
  un_99
  oz_99
  ea_99
  bs_99
  is_99
  sz_22
  ag_22
  by_22
  ze_22
  un_22
  el_22
  ix_22
  ixr_22
  sl_22
  slr_22
  sle_22
  lpl_22
  lpr_22
  lpn_22
  oz_22
  ea_22
  em_22
  eap_22
  ecp_22
  bs_22
  is_22
  sz_29
  ag_29
  by_29
  ze_29
  un_29
  el_29
  ix_29
  ixr_29
  sl_29
  slr_29
  sle_29
  lpl_29
  lpr_29
  lpn_29
  oz_29
  ea_29
  em_29
  eap_29
  ecp_29
  bs_29
  is_29
  sz_31
  ag_31
  by_31
  ze_31
  un_31
  el_31
  ix_31
  ixr_31
  sl_31
  slr_31
  sle_31
  lpl_31
  lpr_31
  lpn_31
  oz_31
  ea_31
  em_31
  eap_31
  ecp_31
  bs_31
  is_31
  cvi_2_2
  cvi_2_3
  cvi_2_5
  cvi_2_12
  cvi_2_21
  cvi_2_83
  cvi_2_96
  cvi_2_99
  cvi_3_2
  cvi_3_3
  cvi_3_5
  cvi_3_12
  cvi_3_21
  cvi_3_83
  cvi_3_96
  cvi_3_99
  cvi_5_2
  cvi_5_3
  cvi_5_5
  cvi_5_12
  cvi_5_21
  cvi_5_83
  cvi_5_96
  cvi_5_99
  cvi_12_2
  cvi_12_3
  cvi_12_5
  cvi_12_12
  cvi_12_21
  cvi_12_83
  cvi_12_96
  cvi_12_99
  cvi_21_2
  cvi_21_3
  cvi_21_5
  cvi_21_12
  cvi_21_21
  cvi_21_83
  cvi_21_96
  cvi_21_99
  cvi_83_2
  cvi_83_3
  cvi_83_5
  cvi_83_12
  cvi_83_21
  cvi_83_83
  cvi_83_96
  cvi_83_99
  cvi_96_2
  cvi_96_3
  cvi_96_5
  cvi_96_12
  cvi_96_21
  cvi_96_83
  cvi_96_96
  cvi_96_99
  cvi_99_2
  cvi_99_3
  cvi_99_5
  cvi_99_12
  cvi_99_21
  cvi_99_83
  cvi_99_96
  cvi_99_99
  rw_22_0
  rw_22_1
  rw_29_0
  rw_29_1
  rw_29_5
  rw_29_12
  rw_31_0
  rw_31_1
  rw_31_4
  rw_31_7
end Go.Proofs.Ytbfcdpgnelihfaa
