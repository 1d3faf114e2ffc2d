/- Facts on the types of this seat, each reckoned by the kernel. -/
import Derived.Test.YtenhkmkajmnaaaaProg
import Derived.Test.YtenhkmkajmnaaaaPxW
namespace Go.Proofs.Ytenhkmkajmnaaaa
open Go.RowKit
set_option linter.all false
theorem sz_2 : tySize Try.prog 2 = some 1 := by kernel_rfl
theorem ag_2 : tyAgg Try.prog 2 = some false := by kernel_rfl
theorem by_2 : tyBytes Try.prog 2 = some 8 := by kernel_rfl
theorem ze_2 : zeroOf Try.prog 2 = some (.int .i64 0) := by kernel_rfl
theorem un_2 : Try.prog.underlying 2 = some (.int .i64) := by kernel_rfl
theorem oz_2 : ofVal (.int .i64 0) = .val (.int .i64 0) := rfl
theorem ea_2 {Γ : Ctx} (s : AS) (ρ : Operand → PV) : evEff Try.prog Γ s ρ (.alloc 2) = some (.own s.nx 1 0 0, upd s.ob s.nx (some (2, 1, [.val (.int .i64 0)])), s.nx + 1) := ea_of ze_2 (by kernel_rfl) rfl rfl s ρ
theorem bs_2 : isByteSlice Try.prog 2 = false := by kernel_rfl
theorem is_2 : isStr Try.prog 2 = false := by kernel_rfl
theorem sz_3 : tySize Try.prog 3 = some 1 := by kernel_rfl
theorem ag_3 : tyAgg Try.prog 3 = some false := by kernel_rfl
theorem by_3 : tyBytes Try.prog 3 = some 8 := by kernel_rfl
theorem ze_3 : zeroOf Try.prog 3 = some (.int .i64 0) := by kernel_rfl
theorem un_3 : Try.prog.underlying 3 = some (.int .i64) := by kernel_rfl
theorem oz_3 : ofVal (.int .i64 0) = .val (.int .i64 0) := rfl
theorem ea_3 {Γ : Ctx} (s : AS) (ρ : Operand → PV) : evEff Try.prog Γ s ρ (.alloc 3) = some (.own s.nx 1 0 0, upd s.ob s.nx (some (3, 1, [.val (.int .i64 0)])), s.nx + 1) := ea_of ze_3 (by kernel_rfl) rfl rfl s ρ
theorem bs_3 : isByteSlice Try.prog 3 = false := by kernel_rfl
theorem is_3 : isStr Try.prog 3 = false := by kernel_rfl
theorem sz_4 : tySize Try.prog 4 = some 1 := by kernel_rfl
theorem ag_4 : tyAgg Try.prog 4 = some false := by kernel_rfl
theorem by_4 : tyBytes Try.prog 4 = some 1 := by kernel_rfl
theorem ze_4 : zeroOf Try.prog 4 = some (.bool false) := by kernel_rfl
theorem un_4 : Try.prog.underlying 4 = some .bool := by kernel_rfl
theorem bqe_4 {x y : Operand} {a b : Bool} : binP Try.prog .eql 4 x y (some (.bool a)) (some (.bool b)) = some (.val (.bool (a == b))) := bp_eqlB un_4
theorem bqn_4 {x y : Operand} {a b : Bool} : binP Try.prog .neq 4 x y (some (.bool a)) (some (.bool b)) = some (.val (.bool (!(a == b)))) := bp_neqB un_4
theorem oz_4 : ofVal (.bool false) = .val (.bool false) := rfl
theorem ea_4 {Γ : Ctx} (s : AS) (ρ : Operand → PV) : evEff Try.prog Γ s ρ (.alloc 4) = some (.own s.nx 1 0 0, upd s.ob s.nx (some (4, 1, [.val (.bool false)])), s.nx + 1) := ea_of ze_4 (by kernel_rfl) rfl rfl s ρ
theorem bs_4 : isByteSlice Try.prog 4 = false := by kernel_rfl
theorem is_4 : isStr Try.prog 4 = false := by kernel_rfl
theorem sz_5 : tySize Try.prog 5 = some 1 := by kernel_rfl
theorem ag_5 : tyAgg Try.prog 5 = some false := by kernel_rfl
theorem by_5 : tyBytes Try.prog 5 = some 1 := by kernel_rfl
theorem ze_5 : zeroOf Try.prog 5 = some (.int .u8 0) := by kernel_rfl
theorem un_5 : Try.prog.underlying 5 = some (.int .u8) := by kernel_rfl
theorem oz_5 : ofVal (.int .u8 0) = .val (.int .u8 0) := rfl
theorem ea_5 {Γ : Ctx} (s : AS) (ρ : Operand → PV) : evEff Try.prog Γ s ρ (.alloc 5) = some (.own s.nx 1 0 0, upd s.ob s.nx (some (5, 1, [.val (.int .u8 0)])), s.nx + 1) := ea_of ze_5 (by kernel_rfl) rfl rfl s ρ
theorem bs_5 : isByteSlice Try.prog 5 = false := by kernel_rfl
theorem is_5 : isStr Try.prog 5 = false := by kernel_rfl
theorem sz_7 : tySize Try.prog 7 = some 4 := by kernel_rfl
theorem ag_7 : tyAgg Try.prog 7 = some true := by kernel_rfl
theorem by_7 : tyBytes Try.prog 7 = some 24 := by kernel_rfl
theorem ze_7 : zeroOf Try.prog 7 = some (.agg #[.int .i64 0, .int .i64 0, .bool false, .int .u8 0]) := by kernel_rfl
theorem fo_7_0 : fieldOff Try.prog 7 0 = some 0 := by kernel_rfl
theorem fo_7_1 : fieldOff Try.prog 7 1 = some 1 := by kernel_rfl
theorem fo_7_2 : fieldOff Try.prog 7 2 = some 2 := by kernel_rfl
theorem fo_7_3 : fieldOff Try.prog 7 3 = some 3 := by kernel_rfl
theorem pl_7 : structPlaces Try.prog 7 = some #[(0, 1), (1, 1), (2, 1), (3, 1)] := by kernel_rfl
theorem bl_7 (ps : List (Nat × PV)) : evBuild Try.prog 7 ps = (fillP (plF [(0, 1), (1, 1), (2, 1), (3, 1)]) [.val (.int .i64 0), .val (.int .i64 0), .val (.bool false), .val (.int .u8 0)] ps).map .agg := bl_of ze_7 rfl pl_7 ps
theorem oz_7 : ofVal (.agg #[.int .i64 0, .int .i64 0, .bool false, .int .u8 0]) = .agg [.val (.int .i64 0), .val (.int .i64 0), .val (.bool false), .val (.int .u8 0)] := rfl
theorem ea_7 {Γ : Ctx} (s : AS) (ρ : Operand → PV) : evEff Try.prog Γ s ρ (.alloc 7) = some (.own s.nx 4 0 0, upd s.ob s.nx (some (7, 4, [.agg [.val (.int .i64 0), .val (.int .i64 0), .val (.bool false), .val (.int .u8 0)]])), s.nx + 1) := ea_of ze_7 (by kernel_rfl) rfl rfl s ρ
theorem bz_7 {Γ : Ctx} {ob : Objs} {ρ : Operand → PV} {ty : Nat} : evVal Try.prog Γ ob ρ ty (.build 7 #[]) = some (.agg [.val (.int .i64 0), .val (.int .i64 0), .val (.bool false), .val (.int .u8 0)]) := (show evBuild Try.prog 7 [] = some (.agg [.val (.int .i64 0), .val (.int .i64 0), .val (.bool false), .val (.int .u8 0)]) from by kernel_rfl)
theorem bs_7 : isByteSlice Try.prog 7 = false := by kernel_rfl
theorem is_7 : isStr Try.prog 7 = false := by kernel_rfl
theorem sz_9 : tySize Try.prog 9 = some 1 := by kernel_rfl
theorem ag_9 : tyAgg Try.prog 9 = some false := by kernel_rfl
theorem by_9 : tyBytes Try.prog 9 = some 16 := by kernel_rfl
theorem ze_9 : zeroOf Try.prog 9 = some (.string ByteArray.empty) := by kernel_rfl
theorem un_9 : Try.prog.underlying 9 = some .string := by kernel_rfl
theorem lps_9 {ty : Nat} {s : ByteArray} : lenP Try.prog 9 ty (.val (.string s)) = some (.val (.int .i64 s.size)) := lp_str un_9
theorem ixs_9 {s : ByteArray} {i : Int} (h0 : 0 ≤ i) (h1 : i < s.size) : idxP Try.prog 9 (some (.string s)) (some (.int .i64 i)) = some (.val (.int .u8 (at8 s i.toNat))) := ix_str un_9 h0 h1
theorem oz_9 : ofVal (.string ByteArray.empty) = .val (.string ByteArray.empty) := rfl
theorem ea_9 {Γ : Ctx} (s : AS) (ρ : Operand → PV) : evEff Try.prog Γ s ρ (.alloc 9) = some (.own s.nx 1 0 0, upd s.ob s.nx (some (9, 1, [.val (.string ByteArray.empty)])), s.nx + 1) := ea_of ze_9 (by kernel_rfl) rfl rfl s ρ
theorem bs_9 : isByteSlice Try.prog 9 = false := by kernel_rfl
theorem is_9 : isStr Try.prog 9 = true := by kernel_rfl
theorem sz_12 : tySize Try.prog 12 = some 1 := by kernel_rfl
theorem ag_12 : tyAgg Try.prog 12 = some false := by kernel_rfl
theorem by_12 : tyBytes Try.prog 12 = some 8 := by kernel_rfl
theorem ze_12 : zeroOf Try.prog 12 = some (.int .u64 0) := by kernel_rfl
theorem un_12 : Try.prog.underlying 12 = some (.int .u64) := by kernel_rfl
theorem oz_12 : ofVal (.int .u64 0) = .val (.int .u64 0) := rfl
theorem ea_12 {Γ : Ctx} (s : AS) (ρ : Operand → PV) : evEff Try.prog Γ s ρ (.alloc 12) = some (.own s.nx 1 0 0, upd s.ob s.nx (some (12, 1, [.val (.int .u64 0)])), s.nx + 1) := ea_of ze_12 (by kernel_rfl) rfl rfl s ρ
theorem bs_12 : isByteSlice Try.prog 12 = false := by kernel_rfl
theorem is_12 : isStr Try.prog 12 = false := by kernel_rfl
theorem sz_13 : tySize Try.prog 13 = some 2 := by kernel_rfl
theorem ag_13 : tyAgg Try.prog 13 = some true := by kernel_rfl
theorem by_13 : tyBytes Try.prog 13 = some 24 := by kernel_rfl
theorem ze_13 : zeroOf Try.prog 13 = some (.agg #[.string ByteArray.empty, .int .u64 0]) := by kernel_rfl
theorem fo_13_0 : fieldOff Try.prog 13 0 = some 0 := by kernel_rfl
theorem fo_13_1 : fieldOff Try.prog 13 1 = some 1 := by kernel_rfl
theorem pl_13 : structPlaces Try.prog 13 = some #[(0, 1), (1, 1)] := by kernel_rfl
theorem bl_13 (ps : List (Nat × PV)) : evBuild Try.prog 13 ps = (fillP (plF [(0, 1), (1, 1)]) [.val (.string ByteArray.empty), .val (.int .u64 0)] ps).map .agg := bl_of ze_13 rfl pl_13 ps
theorem oz_13 : ofVal (.agg #[.string ByteArray.empty, .int .u64 0]) = .agg [.val (.string ByteArray.empty), .val (.int .u64 0)] := rfl
theorem ea_13 {Γ : Ctx} (s : AS) (ρ : Operand → PV) : evEff Try.prog Γ s ρ (.alloc 13) = some (.own s.nx 2 0 0, upd s.ob s.nx (some (13, 2, [.agg [.val (.string ByteArray.empty), .val (.int .u64 0)]])), s.nx + 1) := ea_of ze_13 (by kernel_rfl) rfl rfl s ρ
theorem bz_13 {Γ : Ctx} {ob : Objs} {ρ : Operand → PV} {ty : Nat} : evVal Try.prog Γ ob ρ ty (.build 13 #[]) = some (.agg [.val (.string ByteArray.empty), .val (.int .u64 0)]) := (show evBuild Try.prog 13 [] = some (.agg [.val (.string ByteArray.empty), .val (.int .u64 0)]) from by kernel_rfl)
theorem bs_13 : isByteSlice Try.prog 13 = false := by kernel_rfl
theorem is_13 : isStr Try.prog 13 = false := by kernel_rfl
theorem sz_21 : tySize Try.prog 21 = some 1 := by kernel_rfl
theorem ag_21 : tyAgg Try.prog 21 = some false := by kernel_rfl
theorem by_21 : tyBytes Try.prog 21 = some 4 := by kernel_rfl
theorem ze_21 : zeroOf Try.prog 21 = some (.int .i32 0) := by kernel_rfl
theorem un_21 : Try.prog.underlying 21 = some (.int .i32) := by kernel_rfl
theorem oz_21 : ofVal (.int .i32 0) = .val (.int .i32 0) := rfl
theorem ea_21 {Γ : Ctx} (s : AS) (ρ : Operand → PV) : evEff Try.prog Γ s ρ (.alloc 21) = some (.own s.nx 1 0 0, upd s.ob s.nx (some (21, 1, [.val (.int .i32 0)])), s.nx + 1) := ea_of ze_21 (by kernel_rfl) rfl rfl s ρ
theorem bs_21 : isByteSlice Try.prog 21 = false := by kernel_rfl
theorem is_21 : isStr Try.prog 21 = false := by kernel_rfl
theorem sz_28 : tySize Try.prog 28 = some 4 := by kernel_rfl
theorem ag_28 : tyAgg Try.prog 28 = some true := by kernel_rfl
theorem by_28 : tyBytes Try.prog 28 = some 32 := by kernel_rfl
theorem ze_28 : zeroOf Try.prog 28 = some (.agg #[.int .i64 0, .int .i64 0, .int .i64 0, .int .i64 0]) := by kernel_rfl
theorem fo_28_0 : fieldOff Try.prog 28 0 = some 0 := by kernel_rfl
theorem fo_28_1 : fieldOff Try.prog 28 1 = some 1 := by kernel_rfl
theorem fo_28_2 : fieldOff Try.prog 28 2 = some 2 := by kernel_rfl
theorem fo_28_3 : fieldOff Try.prog 28 3 = some 3 := by kernel_rfl
theorem pl_28 : structPlaces Try.prog 28 = some #[(0, 1), (1, 1), (2, 1), (3, 1)] := by kernel_rfl
theorem bl_28 (ps : List (Nat × PV)) : evBuild Try.prog 28 ps = (fillP (plF [(0, 1), (1, 1), (2, 1), (3, 1)]) [.val (.int .i64 0), .val (.int .i64 0), .val (.int .i64 0), .val (.int .i64 0)] ps).map .agg := bl_of ze_28 rfl pl_28 ps
theorem oz_28 : ofVal (.agg #[.int .i64 0, .int .i64 0, .int .i64 0, .int .i64 0]) = .agg [.val (.int .i64 0), .val (.int .i64 0), .val (.int .i64 0), .val (.int .i64 0)] := rfl
theorem ea_28 {Γ : Ctx} (s : AS) (ρ : Operand → PV) : evEff Try.prog Γ s ρ (.alloc 28) = some (.own s.nx 4 0 0, upd s.ob s.nx (some (28, 4, [.agg [.val (.int .i64 0), .val (.int .i64 0), .val (.int .i64 0), .val (.int .i64 0)]])), s.nx + 1) := ea_of ze_28 (by kernel_rfl) rfl rfl s ρ
theorem bz_28 {Γ : Ctx} {ob : Objs} {ρ : Operand → PV} {ty : Nat} : evVal Try.prog Γ ob ρ ty (.build 28 #[]) = some (.agg [.val (.int .i64 0), .val (.int .i64 0), .val (.int .i64 0), .val (.int .i64 0)]) := (show evBuild Try.prog 28 [] = some (.agg [.val (.int .i64 0), .val (.int .i64 0), .val (.int .i64 0), .val (.int .i64 0)]) from by kernel_rfl)
theorem bs_28 : isByteSlice Try.prog 28 = false := by kernel_rfl
theorem is_28 : isStr Try.prog 28 = false := by kernel_rfl
theorem sz_29 : tySize Try.prog 29 = some 4 := by kernel_rfl
theorem ag_29 : tyAgg Try.prog 29 = some true := by kernel_rfl
theorem by_29 : tyBytes Try.prog 29 = some 32 := by kernel_rfl
theorem ze_29 : zeroOf Try.prog 29 = some (.agg #[.int .i64 0, .int .i64 0, .int .i64 0, .int .i64 0]) := by kernel_rfl
theorem fo_29_0 : fieldOff Try.prog 29 0 = some 0 := by kernel_rfl
theorem fo_29_1 : fieldOff Try.prog 29 1 = some 1 := by kernel_rfl
theorem fo_29_2 : fieldOff Try.prog 29 2 = some 2 := by kernel_rfl
theorem fo_29_3 : fieldOff Try.prog 29 3 = some 3 := by kernel_rfl
theorem pl_29 : structPlaces Try.prog 29 = some #[(0, 1), (1, 1), (2, 1), (3, 1)] := by kernel_rfl
theorem bl_29 (ps : List (Nat × PV)) : evBuild Try.prog 29 ps = (fillP (plF [(0, 1), (1, 1), (2, 1), (3, 1)]) [.val (.int .i64 0), .val (.int .i64 0), .val (.int .i64 0), .val (.int .i64 0)] ps).map .agg := bl_of ze_29 rfl pl_29 ps
theorem oz_29 : ofVal (.agg #[.int .i64 0, .int .i64 0, .int .i64 0, .int .i64 0]) = .agg [.val (.int .i64 0), .val (.int .i64 0), .val (.int .i64 0), .val (.int .i64 0)] := rfl
theorem ea_29 {Γ : Ctx} (s : AS) (ρ : Operand → PV) : evEff Try.prog Γ s ρ (.alloc 29) = some (.own s.nx 4 0 0, upd s.ob s.nx (some (29, 4, [.agg [.val (.int .i64 0), .val (.int .i64 0), .val (.int .i64 0), .val (.int .i64 0)]])), s.nx + 1) := ea_of ze_29 (by kernel_rfl) rfl rfl s ρ
theorem bz_29 {Γ : Ctx} {ob : Objs} {ρ : Operand → PV} {ty : Nat} : evVal Try.prog Γ ob ρ ty (.build 29 #[]) = some (.agg [.val (.int .i64 0), .val (.int .i64 0), .val (.int .i64 0), .val (.int .i64 0)]) := (show evBuild Try.prog 29 [] = some (.agg [.val (.int .i64 0), .val (.int .i64 0), .val (.int .i64 0), .val (.int .i64 0)]) from by kernel_rfl)
theorem fd_29 : Try.prog.underlying 29 = some (.struct (Go.Program.fieldsOf Try.prog 29)) := by kernel_rfl
theorem ef_29 {a0 b0 : Int} {a1 b1 : Int} {a2 b2 : Int} {a3 b3 : Int} : eqFl Try.prog [.int .i64 a0, .int .i64 a1, .int .i64 a2, .int .i64 a3] [.int .i64 b0, .int .i64 b1, .int .i64 b2, .int .i64 b3] (Go.Program.fieldsOf Try.prog 29).toList = some ((a0 == b0) && ((a1 == b1) && ((a2 == b2) && ((a3 == b3) && true)))) := by kernel_rfl
theorem sqeql_29 {x y : Operand} {a0 b0 : Int} {a1 b1 : Int} {a2 b2 : Int} {a3 b3 : Int} : binP Try.prog .eql 29 x y (some (.agg #[.int .i64 a0, .int .i64 a1, .int .i64 a2, .int .i64 a3])) (some (.agg #[.int .i64 b0, .int .i64 b1, .int .i64 b2, .int .i64 b3])) = some (.val (.bool ((a0 == b0) && ((a1 == b1) && ((a2 == b2) && ((a3 == b3) && true)))))) := bp_eqlA fd_29 (by kernel_rfl) (by kernel_rfl) ef_29
theorem sqneq_29 {x y : Operand} {a0 b0 : Int} {a1 b1 : Int} {a2 b2 : Int} {a3 b3 : Int} : binP Try.prog .neq 29 x y (some (.agg #[.int .i64 a0, .int .i64 a1, .int .i64 a2, .int .i64 a3])) (some (.agg #[.int .i64 b0, .int .i64 b1, .int .i64 b2, .int .i64 b3])) = some (.val (.bool (!((a0 == b0) && ((a1 == b1) && ((a2 == b2) && ((a3 == b3) && true))))))) := bp_neqA fd_29 (by kernel_rfl) (by kernel_rfl) ef_29
theorem bs_29 : isByteSlice Try.prog 29 = false := by kernel_rfl
theorem is_29 : isStr Try.prog 29 = false := by kernel_rfl
theorem sz_38 : tySize Try.prog 38 = some 2 := by kernel_rfl
theorem ag_38 : tyAgg Try.prog 38 = some true := by kernel_rfl
theorem by_38 : tyBytes Try.prog 38 = some 24 := by kernel_rfl
theorem ze_38 : zeroOf Try.prog 38 = some (.agg #[.string ByteArray.empty, .int .i64 0]) := by kernel_rfl
theorem fo_38_0 : fieldOff Try.prog 38 0 = some 0 := by kernel_rfl
theorem fo_38_1 : fieldOff Try.prog 38 1 = some 1 := by kernel_rfl
theorem pl_38 : structPlaces Try.prog 38 = some #[(0, 1), (1, 1)] := by kernel_rfl
theorem bl_38 (ps : List (Nat × PV)) : evBuild Try.prog 38 ps = (fillP (plF [(0, 1), (1, 1)]) [.val (.string ByteArray.empty), .val (.int .i64 0)] ps).map .agg := bl_of ze_38 rfl pl_38 ps
theorem oz_38 : ofVal (.agg #[.string ByteArray.empty, .int .i64 0]) = .agg [.val (.string ByteArray.empty), .val (.int .i64 0)] := rfl
theorem ea_38 {Γ : Ctx} (s : AS) (ρ : Operand → PV) : evEff Try.prog Γ s ρ (.alloc 38) = some (.own s.nx 2 0 0, upd s.ob s.nx (some (38, 2, [.agg [.val (.string ByteArray.empty), .val (.int .i64 0)]])), s.nx + 1) := ea_of ze_38 (by kernel_rfl) rfl rfl s ρ
theorem bz_38 {Γ : Ctx} {ob : Objs} {ρ : Operand → PV} {ty : Nat} : evVal Try.prog Γ ob ρ ty (.build 38 #[]) = some (.agg [.val (.string ByteArray.empty), .val (.int .i64 0)]) := (show evBuild Try.prog 38 [] = some (.agg [.val (.string ByteArray.empty), .val (.int .i64 0)]) from by kernel_rfl)
theorem bs_38 : isByteSlice Try.prog 38 = false := by kernel_rfl
theorem is_38 : isStr Try.prog 38 = false := by kernel_rfl
theorem sz_39 : tySize Try.prog 39 = some 2 := by kernel_rfl
theorem ag_39 : tyAgg Try.prog 39 = some true := by kernel_rfl
theorem by_39 : tyBytes Try.prog 39 = some 24 := by kernel_rfl
theorem ze_39 : zeroOf Try.prog 39 = some (.agg #[.string ByteArray.empty, .int .i64 0]) := by kernel_rfl
theorem fo_39_0 : fieldOff Try.prog 39 0 = some 0 := by kernel_rfl
theorem fo_39_1 : fieldOff Try.prog 39 1 = some 1 := by kernel_rfl
theorem pl_39 : structPlaces Try.prog 39 = some #[(0, 1), (1, 1)] := by kernel_rfl
theorem bl_39 (ps : List (Nat × PV)) : evBuild Try.prog 39 ps = (fillP (plF [(0, 1), (1, 1)]) [.val (.string ByteArray.empty), .val (.int .i64 0)] ps).map .agg := bl_of ze_39 rfl pl_39 ps
theorem oz_39 : ofVal (.agg #[.string ByteArray.empty, .int .i64 0]) = .agg [.val (.string ByteArray.empty), .val (.int .i64 0)] := rfl
theorem ea_39 {Γ : Ctx} (s : AS) (ρ : Operand → PV) : evEff Try.prog Γ s ρ (.alloc 39) = some (.own s.nx 2 0 0, upd s.ob s.nx (some (39, 2, [.agg [.val (.string ByteArray.empty), .val (.int .i64 0)]])), s.nx + 1) := ea_of ze_39 (by kernel_rfl) rfl rfl s ρ
theorem bz_39 {Γ : Ctx} {ob : Objs} {ρ : Operand → PV} {ty : Nat} : evVal Try.prog Γ ob ρ ty (.build 39 #[]) = some (.agg [.val (.string ByteArray.empty), .val (.int .i64 0)]) := (show evBuild Try.prog 39 [] = some (.agg [.val (.string ByteArray.empty), .val (.int .i64 0)]) from by kernel_rfl)
theorem fd_39 : Try.prog.underlying 39 = some (.struct (Go.Program.fieldsOf Try.prog 39)) := by kernel_rfl
theorem ef_39 {a0 b0 : ByteArray} {a1 b1 : Int} : eqFl Try.prog [.string a0, .int .i64 a1] [.string b0, .int .i64 b1] (Go.Program.fieldsOf Try.prog 39).toList = some ((a0.toList == b0.toList) && ((a1 == b1) && true)) := by kernel_rfl
theorem sqeql_39 {x y : Operand} {a0 b0 : ByteArray} {a1 b1 : Int} : binP Try.prog .eql 39 x y (some (.agg #[.string a0, .int .i64 a1])) (some (.agg #[.string b0, .int .i64 b1])) = some (.val (.bool ((a0.toList == b0.toList) && ((a1 == b1) && true)))) := bp_eqlA fd_39 (by kernel_rfl) (by kernel_rfl) ef_39
theorem sqneq_39 {x y : Operand} {a0 b0 : ByteArray} {a1 b1 : Int} : binP Try.prog .neq 39 x y (some (.agg #[.string a0, .int .i64 a1])) (some (.agg #[.string b0, .int .i64 b1])) = some (.val (.bool (!((a0.toList == b0.toList) && ((a1 == b1) && true))))) := bp_neqA fd_39 (by kernel_rfl) (by kernel_rfl) ef_39
theorem bs_39 : isByteSlice Try.prog 39 = false := by kernel_rfl
theorem is_39 : isStr Try.prog 39 = false := by kernel_rfl
theorem sz_42 : tySize Try.prog 42 = some 2 := by kernel_rfl
theorem ag_42 : tyAgg Try.prog 42 = some true := by kernel_rfl
theorem by_42 : tyBytes Try.prog 42 = some 32 := by kernel_rfl
theorem ze_42 : zeroOf Try.prog 42 = some (.agg #[.int .i64 0, .slice none 0 0]) := by kernel_rfl
theorem fo_42_0 : fieldOff Try.prog 42 0 = some 0 := by kernel_rfl
theorem fo_42_1 : fieldOff Try.prog 42 1 = some 1 := by kernel_rfl
theorem pl_42 : structPlaces Try.prog 42 = some #[(0, 1), (1, 1)] := by kernel_rfl
theorem bl_42 (ps : List (Nat × PV)) : evBuild Try.prog 42 ps = (fillP (plF [(0, 1), (1, 1)]) [.val (.int .i64 0), .val (.slice none 0 0)] ps).map .agg := bl_of ze_42 rfl pl_42 ps
theorem oz_42 : ofVal (.agg #[.int .i64 0, .slice none 0 0]) = .agg [.val (.int .i64 0), .val (.slice none 0 0)] := rfl
theorem ea_42 {Γ : Ctx} (s : AS) (ρ : Operand → PV) : evEff Try.prog Γ s ρ (.alloc 42) = some (.own s.nx 2 0 0, upd s.ob s.nx (some (42, 2, [.agg [.val (.int .i64 0), .val (.slice none 0 0)]])), s.nx + 1) := ea_of ze_42 (by kernel_rfl) rfl rfl s ρ
theorem bz_42 {Γ : Ctx} {ob : Objs} {ρ : Operand → PV} {ty : Nat} : evVal Try.prog Γ ob ρ ty (.build 42 #[]) = some (.agg [.val (.int .i64 0), .val (.slice none 0 0)]) := (show evBuild Try.prog 42 [] = some (.agg [.val (.int .i64 0), .val (.slice none 0 0)]) from by kernel_rfl)
theorem bs_42 : isByteSlice Try.prog 42 = false := by kernel_rfl
theorem is_42 : isStr Try.prog 42 = false := by kernel_rfl
theorem sz_43 : tySize Try.prog 43 = some 2 := by kernel_rfl
theorem ag_43 : tyAgg Try.prog 43 = some true := by kernel_rfl
theorem by_43 : tyBytes Try.prog 43 = some 32 := by kernel_rfl
theorem ze_43 : zeroOf Try.prog 43 = some (.agg #[.int .i64 0, .slice none 0 0]) := by kernel_rfl
theorem fo_43_0 : fieldOff Try.prog 43 0 = some 0 := by kernel_rfl
theorem fo_43_1 : fieldOff Try.prog 43 1 = some 1 := by kernel_rfl
theorem pl_43 : structPlaces Try.prog 43 = some #[(0, 1), (1, 1)] := by kernel_rfl
theorem bl_43 (ps : List (Nat × PV)) : evBuild Try.prog 43 ps = (fillP (plF [(0, 1), (1, 1)]) [.val (.int .i64 0), .val (.slice none 0 0)] ps).map .agg := bl_of ze_43 rfl pl_43 ps
theorem oz_43 : ofVal (.agg #[.int .i64 0, .slice none 0 0]) = .agg [.val (.int .i64 0), .val (.slice none 0 0)] := rfl
theorem ea_43 {Γ : Ctx} (s : AS) (ρ : Operand → PV) : evEff Try.prog Γ s ρ (.alloc 43) = some (.own s.nx 2 0 0, upd s.ob s.nx (some (43, 2, [.agg [.val (.int .i64 0), .val (.slice none 0 0)]])), s.nx + 1) := ea_of ze_43 (by kernel_rfl) rfl rfl s ρ
theorem bz_43 {Γ : Ctx} {ob : Objs} {ρ : Operand → PV} {ty : Nat} : evVal Try.prog Γ ob ρ ty (.build 43 #[]) = some (.agg [.val (.int .i64 0), .val (.slice none 0 0)]) := (show evBuild Try.prog 43 [] = some (.agg [.val (.int .i64 0), .val (.slice none 0 0)]) from by kernel_rfl)
theorem bs_43 : isByteSlice Try.prog 43 = false := by kernel_rfl
theorem is_43 : isStr Try.prog 43 = false := by kernel_rfl
theorem sz_50 : tySize Try.prog 50 = some 3 := by kernel_rfl
theorem ag_50 : tyAgg Try.prog 50 = some true := by kernel_rfl
theorem by_50 : tyBytes Try.prog 50 = some 24 := by kernel_rfl
theorem ze_50 : zeroOf Try.prog 50 = some (.agg #[.int .i64 0, .int .i64 0, .int .i64 0]) := by kernel_rfl
theorem fo_50_0 : fieldOff Try.prog 50 0 = some 0 := by kernel_rfl
theorem fo_50_1 : fieldOff Try.prog 50 1 = some 1 := by kernel_rfl
theorem fo_50_2 : fieldOff Try.prog 50 2 = some 2 := by kernel_rfl
theorem pl_50 : structPlaces Try.prog 50 = some #[(0, 1), (1, 1), (2, 1)] := by kernel_rfl
theorem bl_50 (ps : List (Nat × PV)) : evBuild Try.prog 50 ps = (fillP (plF [(0, 1), (1, 1), (2, 1)]) [.val (.int .i64 0), .val (.int .i64 0), .val (.int .i64 0)] ps).map .agg := bl_of ze_50 rfl pl_50 ps
theorem oz_50 : ofVal (.agg #[.int .i64 0, .int .i64 0, .int .i64 0]) = .agg [.val (.int .i64 0), .val (.int .i64 0), .val (.int .i64 0)] := rfl
theorem ea_50 {Γ : Ctx} (s : AS) (ρ : Operand → PV) : evEff Try.prog Γ s ρ (.alloc 50) = some (.own s.nx 3 0 0, upd s.ob s.nx (some (50, 3, [.agg [.val (.int .i64 0), .val (.int .i64 0), .val (.int .i64 0)]])), s.nx + 1) := ea_of ze_50 (by kernel_rfl) rfl rfl s ρ
theorem bz_50 {Γ : Ctx} {ob : Objs} {ρ : Operand → PV} {ty : Nat} : evVal Try.prog Γ ob ρ ty (.build 50 #[]) = some (.agg [.val (.int .i64 0), .val (.int .i64 0), .val (.int .i64 0)]) := (show evBuild Try.prog 50 [] = some (.agg [.val (.int .i64 0), .val (.int .i64 0), .val (.int .i64 0)]) from by kernel_rfl)
theorem bs_50 : isByteSlice Try.prog 50 = false := by kernel_rfl
theorem is_50 : isStr Try.prog 50 = false := by kernel_rfl
theorem sz_51 : tySize Try.prog 51 = some 3 := by kernel_rfl
theorem ag_51 : tyAgg Try.prog 51 = some true := by kernel_rfl
theorem by_51 : tyBytes Try.prog 51 = some 24 := by kernel_rfl
theorem ze_51 : zeroOf Try.prog 51 = some (.agg #[.int .i64 0, .int .i64 0, .int .i64 0]) := by kernel_rfl
theorem fo_51_0 : fieldOff Try.prog 51 0 = some 0 := by kernel_rfl
theorem fo_51_1 : fieldOff Try.prog 51 1 = some 1 := by kernel_rfl
theorem fo_51_2 : fieldOff Try.prog 51 2 = some 2 := by kernel_rfl
theorem pl_51 : structPlaces Try.prog 51 = some #[(0, 1), (1, 1), (2, 1)] := by kernel_rfl
theorem bl_51 (ps : List (Nat × PV)) : evBuild Try.prog 51 ps = (fillP (plF [(0, 1), (1, 1), (2, 1)]) [.val (.int .i64 0), .val (.int .i64 0), .val (.int .i64 0)] ps).map .agg := bl_of ze_51 rfl pl_51 ps
theorem oz_51 : ofVal (.agg #[.int .i64 0, .int .i64 0, .int .i64 0]) = .agg [.val (.int .i64 0), .val (.int .i64 0), .val (.int .i64 0)] := rfl
theorem ea_51 {Γ : Ctx} (s : AS) (ρ : Operand → PV) : evEff Try.prog Γ s ρ (.alloc 51) = some (.own s.nx 3 0 0, upd s.ob s.nx (some (51, 3, [.agg [.val (.int .i64 0), .val (.int .i64 0), .val (.int .i64 0)]])), s.nx + 1) := ea_of ze_51 (by kernel_rfl) rfl rfl s ρ
theorem bz_51 {Γ : Ctx} {ob : Objs} {ρ : Operand → PV} {ty : Nat} : evVal Try.prog Γ ob ρ ty (.build 51 #[]) = some (.agg [.val (.int .i64 0), .val (.int .i64 0), .val (.int .i64 0)]) := (show evBuild Try.prog 51 [] = some (.agg [.val (.int .i64 0), .val (.int .i64 0), .val (.int .i64 0)]) from by kernel_rfl)
theorem fd_51 : Try.prog.underlying 51 = some (.struct (Go.Program.fieldsOf Try.prog 51)) := by kernel_rfl
theorem ef_51 {a0 b0 : Int} {a1 b1 : Int} {a2 b2 : Int} : eqFl Try.prog [.int .i64 a0, .int .i64 a1, .int .i64 a2] [.int .i64 b0, .int .i64 b1, .int .i64 b2] (Go.Program.fieldsOf Try.prog 51).toList = some ((a0 == b0) && ((a1 == b1) && ((a2 == b2) && true))) := by kernel_rfl
theorem sqeql_51 {x y : Operand} {a0 b0 : Int} {a1 b1 : Int} {a2 b2 : Int} : binP Try.prog .eql 51 x y (some (.agg #[.int .i64 a0, .int .i64 a1, .int .i64 a2])) (some (.agg #[.int .i64 b0, .int .i64 b1, .int .i64 b2])) = some (.val (.bool ((a0 == b0) && ((a1 == b1) && ((a2 == b2) && true))))) := bp_eqlA fd_51 (by kernel_rfl) (by kernel_rfl) ef_51
theorem sqneq_51 {x y : Operand} {a0 b0 : Int} {a1 b1 : Int} {a2 b2 : Int} : binP Try.prog .neq 51 x y (some (.agg #[.int .i64 a0, .int .i64 a1, .int .i64 a2])) (some (.agg #[.int .i64 b0, .int .i64 b1, .int .i64 b2])) = some (.val (.bool (!((a0 == b0) && ((a1 == b1) && ((a2 == b2) && true)))))) := bp_neqA fd_51 (by kernel_rfl) (by kernel_rfl) ef_51
theorem bs_51 : isByteSlice Try.prog 51 = false := by kernel_rfl
theorem is_51 : isStr Try.prog 51 = false := by kernel_rfl
theorem sz_54 : tySize Try.prog 54 = some 5 := by kernel_rfl
theorem ag_54 : tyAgg Try.prog 54 = some true := by kernel_rfl
theorem by_54 : tyBytes Try.prog 54 = some 72 := by kernel_rfl
theorem ze_54 : zeroOf Try.prog 54 = some (.agg #[.slice none 0 0, .slice none 0 0, .int .i64 0, .int .i64 0, .int .i64 0]) := by kernel_rfl
theorem fo_54_0 : fieldOff Try.prog 54 0 = some 0 := by kernel_rfl
theorem fo_54_1 : fieldOff Try.prog 54 1 = some 1 := by kernel_rfl
theorem fo_54_2 : fieldOff Try.prog 54 2 = some 2 := by kernel_rfl
theorem fo_54_3 : fieldOff Try.prog 54 3 = some 3 := by kernel_rfl
theorem fo_54_4 : fieldOff Try.prog 54 4 = some 4 := by kernel_rfl
theorem pl_54 : structPlaces Try.prog 54 = some #[(0, 1), (1, 1), (2, 1), (3, 1), (4, 1)] := by kernel_rfl
theorem bl_54 (ps : List (Nat × PV)) : evBuild Try.prog 54 ps = (fillP (plF [(0, 1), (1, 1), (2, 1), (3, 1), (4, 1)]) [.val (.slice none 0 0), .val (.slice none 0 0), .val (.int .i64 0), .val (.int .i64 0), .val (.int .i64 0)] ps).map .agg := bl_of ze_54 rfl pl_54 ps
theorem oz_54 : ofVal (.agg #[.slice none 0 0, .slice none 0 0, .int .i64 0, .int .i64 0, .int .i64 0]) = .agg [.val (.slice none 0 0), .val (.slice none 0 0), .val (.int .i64 0), .val (.int .i64 0), .val (.int .i64 0)] := rfl
theorem ea_54 {Γ : Ctx} (s : AS) (ρ : Operand → PV) : evEff Try.prog Γ s ρ (.alloc 54) = some (.own s.nx 5 0 0, upd s.ob s.nx (some (54, 5, [.agg [.val (.slice none 0 0), .val (.slice none 0 0), .val (.int .i64 0), .val (.int .i64 0), .val (.int .i64 0)]])), s.nx + 1) := ea_of ze_54 (by kernel_rfl) rfl rfl s ρ
theorem bz_54 {Γ : Ctx} {ob : Objs} {ρ : Operand → PV} {ty : Nat} : evVal Try.prog Γ ob ρ ty (.build 54 #[]) = some (.agg [.val (.slice none 0 0), .val (.slice none 0 0), .val (.int .i64 0), .val (.int .i64 0), .val (.int .i64 0)]) := (show evBuild Try.prog 54 [] = some (.agg [.val (.slice none 0 0), .val (.slice none 0 0), .val (.int .i64 0), .val (.int .i64 0), .val (.int .i64 0)]) from by kernel_rfl)
theorem bs_54 : isByteSlice Try.prog 54 = false := by kernel_rfl
theorem is_54 : isStr Try.prog 54 = false := by kernel_rfl
theorem sz_55 : tySize Try.prog 55 = some 5 := by kernel_rfl
theorem ag_55 : tyAgg Try.prog 55 = some true := by kernel_rfl
theorem by_55 : tyBytes Try.prog 55 = some 72 := by kernel_rfl
theorem ze_55 : zeroOf Try.prog 55 = some (.agg #[.slice none 0 0, .slice none 0 0, .int .i64 0, .int .i64 0, .int .i64 0]) := by kernel_rfl
theorem fo_55_0 : fieldOff Try.prog 55 0 = some 0 := by kernel_rfl
theorem fo_55_1 : fieldOff Try.prog 55 1 = some 1 := by kernel_rfl
theorem fo_55_2 : fieldOff Try.prog 55 2 = some 2 := by kernel_rfl
theorem fo_55_3 : fieldOff Try.prog 55 3 = some 3 := by kernel_rfl
theorem fo_55_4 : fieldOff Try.prog 55 4 = some 4 := by kernel_rfl
theorem pl_55 : structPlaces Try.prog 55 = some #[(0, 1), (1, 1), (2, 1), (3, 1), (4, 1)] := by kernel_rfl
theorem bl_55 (ps : List (Nat × PV)) : evBuild Try.prog 55 ps = (fillP (plF [(0, 1), (1, 1), (2, 1), (3, 1), (4, 1)]) [.val (.slice none 0 0), .val (.slice none 0 0), .val (.int .i64 0), .val (.int .i64 0), .val (.int .i64 0)] ps).map .agg := bl_of ze_55 rfl pl_55 ps
theorem oz_55 : ofVal (.agg #[.slice none 0 0, .slice none 0 0, .int .i64 0, .int .i64 0, .int .i64 0]) = .agg [.val (.slice none 0 0), .val (.slice none 0 0), .val (.int .i64 0), .val (.int .i64 0), .val (.int .i64 0)] := rfl
theorem ea_55 {Γ : Ctx} (s : AS) (ρ : Operand → PV) : evEff Try.prog Γ s ρ (.alloc 55) = some (.own s.nx 5 0 0, upd s.ob s.nx (some (55, 5, [.agg [.val (.slice none 0 0), .val (.slice none 0 0), .val (.int .i64 0), .val (.int .i64 0), .val (.int .i64 0)]])), s.nx + 1) := ea_of ze_55 (by kernel_rfl) rfl rfl s ρ
theorem bz_55 {Γ : Ctx} {ob : Objs} {ρ : Operand → PV} {ty : Nat} : evVal Try.prog Γ ob ρ ty (.build 55 #[]) = some (.agg [.val (.slice none 0 0), .val (.slice none 0 0), .val (.int .i64 0), .val (.int .i64 0), .val (.int .i64 0)]) := (show evBuild Try.prog 55 [] = some (.agg [.val (.slice none 0 0), .val (.slice none 0 0), .val (.int .i64 0), .val (.int .i64 0), .val (.int .i64 0)]) from by kernel_rfl)
theorem bs_55 : isByteSlice Try.prog 55 = false := by kernel_rfl
theorem is_55 : isStr Try.prog 55 = false := by kernel_rfl
theorem sz_81 : tySize Try.prog 81 = some 4 := by kernel_rfl
theorem ag_81 : tyAgg Try.prog 81 = some true := by kernel_rfl
theorem by_81 : tyBytes Try.prog 81 = some 32 := by kernel_rfl
theorem ze_81 : zeroOf Try.prog 81 = some (.agg #[.int .i64 0, .int .i64 0, .int .i64 0, .int .i64 0]) := by kernel_rfl
theorem fo_81_0 : fieldOff Try.prog 81 0 = some 0 := by kernel_rfl
theorem fo_81_1 : fieldOff Try.prog 81 1 = some 1 := by kernel_rfl
theorem fo_81_2 : fieldOff Try.prog 81 2 = some 2 := by kernel_rfl
theorem fo_81_3 : fieldOff Try.prog 81 3 = some 3 := by kernel_rfl
theorem pl_81 : structPlaces Try.prog 81 = some #[(0, 1), (1, 1), (2, 1), (3, 1)] := by kernel_rfl
theorem bl_81 (ps : List (Nat × PV)) : evBuild Try.prog 81 ps = (fillP (plF [(0, 1), (1, 1), (2, 1), (3, 1)]) [.val (.int .i64 0), .val (.int .i64 0), .val (.int .i64 0), .val (.int .i64 0)] ps).map .agg := bl_of ze_81 rfl pl_81 ps
theorem oz_81 : ofVal (.agg #[.int .i64 0, .int .i64 0, .int .i64 0, .int .i64 0]) = .agg [.val (.int .i64 0), .val (.int .i64 0), .val (.int .i64 0), .val (.int .i64 0)] := rfl
theorem ea_81 {Γ : Ctx} (s : AS) (ρ : Operand → PV) : evEff Try.prog Γ s ρ (.alloc 81) = some (.own s.nx 4 0 0, upd s.ob s.nx (some (81, 4, [.agg [.val (.int .i64 0), .val (.int .i64 0), .val (.int .i64 0), .val (.int .i64 0)]])), s.nx + 1) := ea_of ze_81 (by kernel_rfl) rfl rfl s ρ
theorem bz_81 {Γ : Ctx} {ob : Objs} {ρ : Operand → PV} {ty : Nat} : evVal Try.prog Γ ob ρ ty (.build 81 #[]) = some (.agg [.val (.int .i64 0), .val (.int .i64 0), .val (.int .i64 0), .val (.int .i64 0)]) := (show evBuild Try.prog 81 [] = some (.agg [.val (.int .i64 0), .val (.int .i64 0), .val (.int .i64 0), .val (.int .i64 0)]) from by kernel_rfl)
theorem bs_81 : isByteSlice Try.prog 81 = false := by kernel_rfl
theorem is_81 : isStr Try.prog 81 = false := by kernel_rfl
theorem sz_82 : tySize Try.prog 82 = some 4 := by kernel_rfl
theorem ag_82 : tyAgg Try.prog 82 = some true := by kernel_rfl
theorem by_82 : tyBytes Try.prog 82 = some 32 := by kernel_rfl
theorem ze_82 : zeroOf Try.prog 82 = some (.agg #[.int .i64 0, .int .i64 0, .int .i64 0, .int .i64 0]) := by kernel_rfl
theorem fo_82_0 : fieldOff Try.prog 82 0 = some 0 := by kernel_rfl
theorem fo_82_1 : fieldOff Try.prog 82 1 = some 1 := by kernel_rfl
theorem fo_82_2 : fieldOff Try.prog 82 2 = some 2 := by kernel_rfl
theorem fo_82_3 : fieldOff Try.prog 82 3 = some 3 := by kernel_rfl
theorem pl_82 : structPlaces Try.prog 82 = some #[(0, 1), (1, 1), (2, 1), (3, 1)] := by kernel_rfl
theorem bl_82 (ps : List (Nat × PV)) : evBuild Try.prog 82 ps = (fillP (plF [(0, 1), (1, 1), (2, 1), (3, 1)]) [.val (.int .i64 0), .val (.int .i64 0), .val (.int .i64 0), .val (.int .i64 0)] ps).map .agg := bl_of ze_82 rfl pl_82 ps
theorem oz_82 : ofVal (.agg #[.int .i64 0, .int .i64 0, .int .i64 0, .int .i64 0]) = .agg [.val (.int .i64 0), .val (.int .i64 0), .val (.int .i64 0), .val (.int .i64 0)] := rfl
theorem ea_82 {Γ : Ctx} (s : AS) (ρ : Operand → PV) : evEff Try.prog Γ s ρ (.alloc 82) = some (.own s.nx 4 0 0, upd s.ob s.nx (some (82, 4, [.agg [.val (.int .i64 0), .val (.int .i64 0), .val (.int .i64 0), .val (.int .i64 0)]])), s.nx + 1) := ea_of ze_82 (by kernel_rfl) rfl rfl s ρ
theorem bz_82 {Γ : Ctx} {ob : Objs} {ρ : Operand → PV} {ty : Nat} : evVal Try.prog Γ ob ρ ty (.build 82 #[]) = some (.agg [.val (.int .i64 0), .val (.int .i64 0), .val (.int .i64 0), .val (.int .i64 0)]) := (show evBuild Try.prog 82 [] = some (.agg [.val (.int .i64 0), .val (.int .i64 0), .val (.int .i64 0), .val (.int .i64 0)]) from by kernel_rfl)
theorem fd_82 : Try.prog.underlying 82 = some (.struct (Go.Program.fieldsOf Try.prog 82)) := by kernel_rfl
theorem ef_82 {a0 b0 : Int} {a1 b1 : Int} {a2 b2 : Int} {a3 b3 : Int} : eqFl Try.prog [.int .i64 a0, .int .i64 a1, .int .i64 a2, .int .i64 a3] [.int .i64 b0, .int .i64 b1, .int .i64 b2, .int .i64 b3] (Go.Program.fieldsOf Try.prog 82).toList = some ((a0 == b0) && ((a1 == b1) && ((a2 == b2) && ((a3 == b3) && true)))) := by kernel_rfl
theorem sqeql_82 {x y : Operand} {a0 b0 : Int} {a1 b1 : Int} {a2 b2 : Int} {a3 b3 : Int} : binP Try.prog .eql 82 x y (some (.agg #[.int .i64 a0, .int .i64 a1, .int .i64 a2, .int .i64 a3])) (some (.agg #[.int .i64 b0, .int .i64 b1, .int .i64 b2, .int .i64 b3])) = some (.val (.bool ((a0 == b0) && ((a1 == b1) && ((a2 == b2) && ((a3 == b3) && true)))))) := bp_eqlA fd_82 (by kernel_rfl) (by kernel_rfl) ef_82
theorem sqneq_82 {x y : Operand} {a0 b0 : Int} {a1 b1 : Int} {a2 b2 : Int} {a3 b3 : Int} : binP Try.prog .neq 82 x y (some (.agg #[.int .i64 a0, .int .i64 a1, .int .i64 a2, .int .i64 a3])) (some (.agg #[.int .i64 b0, .int .i64 b1, .int .i64 b2, .int .i64 b3])) = some (.val (.bool (!((a0 == b0) && ((a1 == b1) && ((a2 == b2) && ((a3 == b3) && true))))))) := bp_neqA fd_82 (by kernel_rfl) (by kernel_rfl) ef_82
theorem bs_82 : isByteSlice Try.prog 82 = false := by kernel_rfl
theorem is_82 : isStr Try.prog 82 = false := by kernel_rfl
theorem sz_101 : tySize Try.prog 101 = some 3 := by kernel_rfl
theorem ag_101 : tyAgg Try.prog 101 = some true := by kernel_rfl
theorem by_101 : tyBytes Try.prog 101 = some 24 := by kernel_rfl
theorem ze_101 : zeroOf Try.prog 101 = some (.agg #[.int .i64 0, .int .i64 0, .int .i64 0]) := by kernel_rfl
theorem fo_101_0 : fieldOff Try.prog 101 0 = some 0 := by kernel_rfl
theorem fo_101_1 : fieldOff Try.prog 101 1 = some 1 := by kernel_rfl
theorem fo_101_2 : fieldOff Try.prog 101 2 = some 2 := by kernel_rfl
theorem pl_101 : structPlaces Try.prog 101 = some #[(0, 1), (1, 1), (2, 1)] := by kernel_rfl
theorem bl_101 (ps : List (Nat × PV)) : evBuild Try.prog 101 ps = (fillP (plF [(0, 1), (1, 1), (2, 1)]) [.val (.int .i64 0), .val (.int .i64 0), .val (.int .i64 0)] ps).map .agg := bl_of ze_101 rfl pl_101 ps
theorem oz_101 : ofVal (.agg #[.int .i64 0, .int .i64 0, .int .i64 0]) = .agg [.val (.int .i64 0), .val (.int .i64 0), .val (.int .i64 0)] := rfl
theorem ea_101 {Γ : Ctx} (s : AS) (ρ : Operand → PV) : evEff Try.prog Γ s ρ (.alloc 101) = some (.own s.nx 3 0 0, upd s.ob s.nx (some (101, 3, [.agg [.val (.int .i64 0), .val (.int .i64 0), .val (.int .i64 0)]])), s.nx + 1) := ea_of ze_101 (by kernel_rfl) rfl rfl s ρ
theorem bz_101 {Γ : Ctx} {ob : Objs} {ρ : Operand → PV} {ty : Nat} : evVal Try.prog Γ ob ρ ty (.build 101 #[]) = some (.agg [.val (.int .i64 0), .val (.int .i64 0), .val (.int .i64 0)]) := (show evBuild Try.prog 101 [] = some (.agg [.val (.int .i64 0), .val (.int .i64 0), .val (.int .i64 0)]) from by kernel_rfl)
theorem fd_101 : Try.prog.underlying 101 = some (.struct (Go.Program.fieldsOf Try.prog 101)) := by kernel_rfl
theorem ef_101 {a0 b0 : Int} {a1 b1 : Int} {a2 b2 : Int} : eqFl Try.prog [.int .i64 a0, .int .i64 a1, .int .i64 a2] [.int .i64 b0, .int .i64 b1, .int .i64 b2] (Go.Program.fieldsOf Try.prog 101).toList = some ((a0 == b0) && ((a1 == b1) && ((a2 == b2) && true))) := by kernel_rfl
theorem sqeql_101 {x y : Operand} {a0 b0 : Int} {a1 b1 : Int} {a2 b2 : Int} : binP Try.prog .eql 101 x y (some (.agg #[.int .i64 a0, .int .i64 a1, .int .i64 a2])) (some (.agg #[.int .i64 b0, .int .i64 b1, .int .i64 b2])) = some (.val (.bool ((a0 == b0) && ((a1 == b1) && ((a2 == b2) && true))))) := bp_eqlA fd_101 (by kernel_rfl) (by kernel_rfl) ef_101
theorem sqneq_101 {x y : Operand} {a0 b0 : Int} {a1 b1 : Int} {a2 b2 : Int} : binP Try.prog .neq 101 x y (some (.agg #[.int .i64 a0, .int .i64 a1, .int .i64 a2])) (some (.agg #[.int .i64 b0, .int .i64 b1, .int .i64 b2])) = some (.val (.bool (!((a0 == b0) && ((a1 == b1) && ((a2 == b2) && true)))))) := bp_neqA fd_101 (by kernel_rfl) (by kernel_rfl) ef_101
theorem bs_101 : isByteSlice Try.prog 101 = false := by kernel_rfl
theorem is_101 : isStr Try.prog 101 = false := by kernel_rfl
theorem sz_107 : tySize Try.prog 107 = some 2 := by kernel_rfl
theorem ag_107 : tyAgg Try.prog 107 = some true := by kernel_rfl
theorem by_107 : tyBytes Try.prog 107 = some 32 := by kernel_rfl
theorem ze_107 : zeroOf Try.prog 107 = some (.agg #[.slice none 0 0, .int .i64 0]) := by kernel_rfl
theorem fo_107_0 : fieldOff Try.prog 107 0 = some 0 := by kernel_rfl
theorem fo_107_1 : fieldOff Try.prog 107 1 = some 1 := by kernel_rfl
theorem pl_107 : structPlaces Try.prog 107 = some #[(0, 1), (1, 1)] := by kernel_rfl
theorem bl_107 (ps : List (Nat × PV)) : evBuild Try.prog 107 ps = (fillP (plF [(0, 1), (1, 1)]) [.val (.slice none 0 0), .val (.int .i64 0)] ps).map .agg := bl_of ze_107 rfl pl_107 ps
theorem oz_107 : ofVal (.agg #[.slice none 0 0, .int .i64 0]) = .agg [.val (.slice none 0 0), .val (.int .i64 0)] := rfl
theorem ea_107 {Γ : Ctx} (s : AS) (ρ : Operand → PV) : evEff Try.prog Γ s ρ (.alloc 107) = some (.own s.nx 2 0 0, upd s.ob s.nx (some (107, 2, [.agg [.val (.slice none 0 0), .val (.int .i64 0)]])), s.nx + 1) := ea_of ze_107 (by kernel_rfl) rfl rfl s ρ
theorem bz_107 {Γ : Ctx} {ob : Objs} {ρ : Operand → PV} {ty : Nat} : evVal Try.prog Γ ob ρ ty (.build 107 #[]) = some (.agg [.val (.slice none 0 0), .val (.int .i64 0)]) := (show evBuild Try.prog 107 [] = some (.agg [.val (.slice none 0 0), .val (.int .i64 0)]) from by kernel_rfl)
theorem bs_107 : isByteSlice Try.prog 107 = false := by kernel_rfl
theorem is_107 : isStr Try.prog 107 = false := by kernel_rfl
theorem sz_108 : tySize Try.prog 108 = some 2 := by kernel_rfl
theorem ag_108 : tyAgg Try.prog 108 = some true := by kernel_rfl
theorem by_108 : tyBytes Try.prog 108 = some 32 := by kernel_rfl
theorem ze_108 : zeroOf Try.prog 108 = some (.agg #[.slice none 0 0, .int .i64 0]) := by kernel_rfl
theorem fo_108_0 : fieldOff Try.prog 108 0 = some 0 := by kernel_rfl
theorem fo_108_1 : fieldOff Try.prog 108 1 = some 1 := by kernel_rfl
theorem pl_108 : structPlaces Try.prog 108 = some #[(0, 1), (1, 1)] := by kernel_rfl
theorem bl_108 (ps : List (Nat × PV)) : evBuild Try.prog 108 ps = (fillP (plF [(0, 1), (1, 1)]) [.val (.slice none 0 0), .val (.int .i64 0)] ps).map .agg := bl_of ze_108 rfl pl_108 ps
theorem oz_108 : ofVal (.agg #[.slice none 0 0, .int .i64 0]) = .agg [.val (.slice none 0 0), .val (.int .i64 0)] := rfl
theorem ea_108 {Γ : Ctx} (s : AS) (ρ : Operand → PV) : evEff Try.prog Γ s ρ (.alloc 108) = some (.own s.nx 2 0 0, upd s.ob s.nx (some (108, 2, [.agg [.val (.slice none 0 0), .val (.int .i64 0)]])), s.nx + 1) := ea_of ze_108 (by kernel_rfl) rfl rfl s ρ
theorem bz_108 {Γ : Ctx} {ob : Objs} {ρ : Operand → PV} {ty : Nat} : evVal Try.prog Γ ob ρ ty (.build 108 #[]) = some (.agg [.val (.slice none 0 0), .val (.int .i64 0)]) := (show evBuild Try.prog 108 [] = some (.agg [.val (.slice none 0 0), .val (.int .i64 0)]) from by kernel_rfl)
theorem bs_108 : isByteSlice Try.prog 108 = false := by kernel_rfl
theorem is_108 : isStr Try.prog 108 = false := by kernel_rfl
theorem sz_135 : tySize Try.prog 135 = some 1 := by kernel_rfl
theorem ag_135 : tyAgg Try.prog 135 = some false := by kernel_rfl
theorem by_135 : tyBytes Try.prog 135 = some 4 := by kernel_rfl
theorem ze_135 : zeroOf Try.prog 135 = some (.int .u32 0) := by kernel_rfl
theorem un_135 : Try.prog.underlying 135 = some (.int .u32) := by kernel_rfl
theorem oz_135 : ofVal (.int .u32 0) = .val (.int .u32 0) := rfl
theorem ea_135 {Γ : Ctx} (s : AS) (ρ : Operand → PV) : evEff Try.prog Γ s ρ (.alloc 135) = some (.own s.nx 1 0 0, upd s.ob s.nx (some (135, 1, [.val (.int .u32 0)])), s.nx + 1) := ea_of ze_135 (by kernel_rfl) rfl rfl s ρ
theorem bs_135 : isByteSlice Try.prog 135 = false := by kernel_rfl
theorem is_135 : isStr Try.prog 135 = false := by kernel_rfl
theorem sz_22 : tySize Try.prog 22 = some 1 := by kernel_rfl
theorem ag_22 : tyAgg Try.prog 22 = some false := by kernel_rfl
theorem by_22 : tyBytes Try.prog 22 = some 24 := by kernel_rfl
theorem ze_22 : zeroOf Try.prog 22 = some (.slice none 0 0) := by kernel_rfl
theorem un_22 : Try.prog.underlying 22 = some (.slice 5) := by kernel_rfl
theorem el_22 : tyElem Try.prog 22 = some 5 := by kernel_rfl
theorem ix_22 {k : Bool} {es : List PV} {i : Int} (h0 : 0 ≤ i) (h1 : i < (es.length : Int)) : evIndexAddr Try.prog 22 (.lst k 1 es) i = some (.ptr k ((es[i.toNat]?).getD .dead) 0) := ix_lst un_22 sz_5 h0 h1
theorem ixr_22 {o j n : Nat} {i : Int} (h0 : 0 ≤ i) (h1 : i < (n : Int)) : evIndexAddr Try.prog 22 (.row o 1 j n) i = some (.own o 1 (j + i.toNat) 0) := ix_row un_22 sz_5 h0 h1
theorem sl_22 {k : Bool} {es : List PV} {lo hi : Option Int} (h0 : 0 ≤ lo.getD 0) (h1 : lo.getD 0 ≤ hi.getD es.length) (h2 : hi.getD es.length ≤ es.length) : evSlice Try.prog 22 (.lst k 1 es) lo hi = some (.lst k 1 ((es.drop (lo.getD 0).toNat).take ((hi.getD es.length).toNat - (lo.getD 0).toNat))) := sl_lst un_22 sz_5 h0 h1 h2
theorem slr_22 {o i n : Nat} {lo hi : Option Int} (h0 : 0 ≤ lo.getD 0) (h1 : lo.getD 0 < hi.getD n) (h2 : hi.getD n ≤ n) : evSlice Try.prog 22 (.row o 1 i n) lo hi = some (.row o 1 (i + (lo.getD 0).toNat) ((hi.getD n).toNat - (lo.getD 0).toNat)) := sl_rowlt un_22 sz_5 h0 h1 h2
theorem sle_22 {o i n : Nat} {lo hi : Option Int} (h0 : 0 ≤ lo.getD 0) (h1 : lo.getD 0 = hi.getD n) (h2 : hi.getD n ≤ n) : evSlice Try.prog 22 (.row o 1 i n) lo hi = some (.lst true 1 []) := sl_roweq un_22 sz_5 h0 h1 h2
theorem lpl_22 {ty sz : Nat} {k : Bool} {es : List PV} : lenP Try.prog 22 ty (.lst k sz es) = some (.val (.int .i64 es.length)) := lp_lst el_22
theorem lpr_22 {ty o sz i n : Nat} : lenP Try.prog 22 ty (.row o sz i n) = some (.val (.int .i64 n)) := lp_row el_22
theorem lpn_22 {ty : Nat} : lenP Try.prog 22 ty (.val (.slice none 0 0)) = some (.val (.int .i64 0)) := lp_nil un_22
theorem oz_22 : ofVal (.slice none 0 0) = .val (.slice none 0 0) := rfl
theorem ea_22 {Γ : Ctx} (s : AS) (ρ : Operand → PV) : evEff Try.prog Γ s ρ (.alloc 22) = some (.own s.nx 1 0 0, upd s.ob s.nx (some (22, 1, [.val (.slice none 0 0)])), s.nx + 1) := ea_of ze_22 (by kernel_rfl) rfl rfl s ρ
theorem em_22 {Γ : Ctx} (s : AS) (ρ : Operand → PV) (l c : Operand) : evEff Try.prog Γ s ρ (.makeSlice 22 l c) = mkEv 5 1 1 (.int .u8 0) s (ρ l) (ρ c) := em_of el_22 ze_5 sz_5 by_5 (by kernel_rfl) rfl s ρ l c
theorem eap_22 {Γ : Ctx} (s : AS) (ρ : Operand → PV) (x y : Operand) : evEff Try.prog Γ s ρ (.call { callee := .builtin .append, args := #[x, y], argTypes := #[22, 22] }) = apEv 5 1 1 s.nx s.ob (ρ x) (obOf s.ob (ρ x)) (sliceEs s.ob 1 (ρ y)) := eap_of el_22 ze_5 sz_5 by_5 (by decide) rfl s ρ x y
theorem ecp_22 {Γ : Ctx} (s : AS) (ρ : Operand → PV) (x y : Operand) (t' : Nat) : evEff Try.prog Γ s ρ (.call { callee := .builtin .copy, args := #[x, y], argTypes := #[22, t'] }) = cpX 1 s.nx s.ob (ρ x) (obOf s.ob (ρ x)) (srcEs s.ob 1 (ρ y)) := ecp_of el_22 sz_5 s ρ x y t'
theorem bs_22 : isByteSlice Try.prog 22 = true := by kernel_rfl
theorem is_22 : isStr Try.prog 22 = false := by kernel_rfl
theorem sz_23 : tySize Try.prog 23 = some 1 := by kernel_rfl
theorem ag_23 : tyAgg Try.prog 23 = some false := by kernel_rfl
theorem by_23 : tyBytes Try.prog 23 = some 24 := by kernel_rfl
theorem ze_23 : zeroOf Try.prog 23 = some (.slice none 0 0) := by kernel_rfl
theorem un_23 : Try.prog.underlying 23 = some (.slice 3) := by kernel_rfl
theorem el_23 : tyElem Try.prog 23 = some 3 := by kernel_rfl
theorem ix_23 {k : Bool} {es : List PV} {i : Int} (h0 : 0 ≤ i) (h1 : i < (es.length : Int)) : evIndexAddr Try.prog 23 (.lst k 1 es) i = some (.ptr k ((es[i.toNat]?).getD .dead) 0) := ix_lst un_23 sz_3 h0 h1
theorem ixr_23 {o j n : Nat} {i : Int} (h0 : 0 ≤ i) (h1 : i < (n : Int)) : evIndexAddr Try.prog 23 (.row o 1 j n) i = some (.own o 1 (j + i.toNat) 0) := ix_row un_23 sz_3 h0 h1
theorem sl_23 {k : Bool} {es : List PV} {lo hi : Option Int} (h0 : 0 ≤ lo.getD 0) (h1 : lo.getD 0 ≤ hi.getD es.length) (h2 : hi.getD es.length ≤ es.length) : evSlice Try.prog 23 (.lst k 1 es) lo hi = some (.lst k 1 ((es.drop (lo.getD 0).toNat).take ((hi.getD es.length).toNat - (lo.getD 0).toNat))) := sl_lst un_23 sz_3 h0 h1 h2
theorem slr_23 {o i n : Nat} {lo hi : Option Int} (h0 : 0 ≤ lo.getD 0) (h1 : lo.getD 0 < hi.getD n) (h2 : hi.getD n ≤ n) : evSlice Try.prog 23 (.row o 1 i n) lo hi = some (.row o 1 (i + (lo.getD 0).toNat) ((hi.getD n).toNat - (lo.getD 0).toNat)) := sl_rowlt un_23 sz_3 h0 h1 h2
theorem sle_23 {o i n : Nat} {lo hi : Option Int} (h0 : 0 ≤ lo.getD 0) (h1 : lo.getD 0 = hi.getD n) (h2 : hi.getD n ≤ n) : evSlice Try.prog 23 (.row o 1 i n) lo hi = some (.lst true 1 []) := sl_roweq un_23 sz_3 h0 h1 h2
theorem lpl_23 {ty sz : Nat} {k : Bool} {es : List PV} : lenP Try.prog 23 ty (.lst k sz es) = some (.val (.int .i64 es.length)) := lp_lst el_23
theorem lpr_23 {ty o sz i n : Nat} : lenP Try.prog 23 ty (.row o sz i n) = some (.val (.int .i64 n)) := lp_row el_23
theorem lpn_23 {ty : Nat} : lenP Try.prog 23 ty (.val (.slice none 0 0)) = some (.val (.int .i64 0)) := lp_nil un_23
theorem oz_23 : ofVal (.slice none 0 0) = .val (.slice none 0 0) := rfl
theorem ea_23 {Γ : Ctx} (s : AS) (ρ : Operand → PV) : evEff Try.prog Γ s ρ (.alloc 23) = some (.own s.nx 1 0 0, upd s.ob s.nx (some (23, 1, [.val (.slice none 0 0)])), s.nx + 1) := ea_of ze_23 (by kernel_rfl) rfl rfl s ρ
theorem em_23 {Γ : Ctx} (s : AS) (ρ : Operand → PV) (l c : Operand) : evEff Try.prog Γ s ρ (.makeSlice 23 l c) = mkEv 3 1 8 (.int .i64 0) s (ρ l) (ρ c) := em_of el_23 ze_3 sz_3 by_3 (by kernel_rfl) rfl s ρ l c
theorem eap_23 {Γ : Ctx} (s : AS) (ρ : Operand → PV) (x y : Operand) : evEff Try.prog Γ s ρ (.call { callee := .builtin .append, args := #[x, y], argTypes := #[23, 23] }) = apEv 3 1 8 s.nx s.ob (ρ x) (obOf s.ob (ρ x)) (sliceEs s.ob 1 (ρ y)) := eap_of el_23 ze_3 sz_3 by_3 (by decide) rfl s ρ x y
theorem ecp_23 {Γ : Ctx} (s : AS) (ρ : Operand → PV) (x y : Operand) (t' : Nat) : evEff Try.prog Γ s ρ (.call { callee := .builtin .copy, args := #[x, y], argTypes := #[23, t'] }) = cpX 1 s.nx s.ob (ρ x) (obOf s.ob (ρ x)) (srcEs s.ob 1 (ρ y)) := ecp_of el_23 sz_3 s ρ x y t'
theorem bs_23 : isByteSlice Try.prog 23 = false := by kernel_rfl
theorem is_23 : isStr Try.prog 23 = false := by kernel_rfl
theorem sz_35 : tySize Try.prog 35 = some 1 := by kernel_rfl
theorem ag_35 : tyAgg Try.prog 35 = some false := by kernel_rfl
theorem by_35 : tyBytes Try.prog 35 = some 24 := by kernel_rfl
theorem ze_35 : zeroOf Try.prog 35 = some (.slice none 0 0) := by kernel_rfl
theorem un_35 : Try.prog.underlying 35 = some (.slice 39) := by kernel_rfl
theorem el_35 : tyElem Try.prog 35 = some 39 := by kernel_rfl
theorem ix_35 {k : Bool} {es : List PV} {i : Int} (h0 : 0 ≤ i) (h1 : i < (es.length : Int)) : evIndexAddr Try.prog 35 (.lst k 2 es) i = some (.ptr k ((es[i.toNat]?).getD .dead) 0) := ix_lst un_35 sz_39 h0 h1
theorem ixr_35 {o j n : Nat} {i : Int} (h0 : 0 ≤ i) (h1 : i < (n : Int)) : evIndexAddr Try.prog 35 (.row o 2 j n) i = some (.own o 2 (j + i.toNat) 0) := ix_row un_35 sz_39 h0 h1
theorem sl_35 {k : Bool} {es : List PV} {lo hi : Option Int} (h0 : 0 ≤ lo.getD 0) (h1 : lo.getD 0 ≤ hi.getD es.length) (h2 : hi.getD es.length ≤ es.length) : evSlice Try.prog 35 (.lst k 2 es) lo hi = some (.lst k 2 ((es.drop (lo.getD 0).toNat).take ((hi.getD es.length).toNat - (lo.getD 0).toNat))) := sl_lst un_35 sz_39 h0 h1 h2
theorem slr_35 {o i n : Nat} {lo hi : Option Int} (h0 : 0 ≤ lo.getD 0) (h1 : lo.getD 0 < hi.getD n) (h2 : hi.getD n ≤ n) : evSlice Try.prog 35 (.row o 2 i n) lo hi = some (.row o 2 (i + (lo.getD 0).toNat) ((hi.getD n).toNat - (lo.getD 0).toNat)) := sl_rowlt un_35 sz_39 h0 h1 h2
theorem sle_35 {o i n : Nat} {lo hi : Option Int} (h0 : 0 ≤ lo.getD 0) (h1 : lo.getD 0 = hi.getD n) (h2 : hi.getD n ≤ n) : evSlice Try.prog 35 (.row o 2 i n) lo hi = some (.lst true 2 []) := sl_roweq un_35 sz_39 h0 h1 h2
theorem lpl_35 {ty sz : Nat} {k : Bool} {es : List PV} : lenP Try.prog 35 ty (.lst k sz es) = some (.val (.int .i64 es.length)) := lp_lst el_35
theorem lpr_35 {ty o sz i n : Nat} : lenP Try.prog 35 ty (.row o sz i n) = some (.val (.int .i64 n)) := lp_row el_35
theorem lpn_35 {ty : Nat} : lenP Try.prog 35 ty (.val (.slice none 0 0)) = some (.val (.int .i64 0)) := lp_nil un_35
theorem oz_35 : ofVal (.slice none 0 0) = .val (.slice none 0 0) := rfl
theorem ea_35 {Γ : Ctx} (s : AS) (ρ : Operand → PV) : evEff Try.prog Γ s ρ (.alloc 35) = some (.own s.nx 1 0 0, upd s.ob s.nx (some (35, 1, [.val (.slice none 0 0)])), s.nx + 1) := ea_of ze_35 (by kernel_rfl) rfl rfl s ρ
theorem em_35 {Γ : Ctx} (s : AS) (ρ : Operand → PV) (l c : Operand) : evEff Try.prog Γ s ρ (.makeSlice 35 l c) = mkEv 39 2 24 (.agg #[.string ByteArray.empty, .int .i64 0]) s (ρ l) (ρ c) := em_of el_35 ze_39 sz_39 by_39 (by kernel_rfl) rfl s ρ l c
theorem eap_35 {Γ : Ctx} (s : AS) (ρ : Operand → PV) (x y : Operand) : evEff Try.prog Γ s ρ (.call { callee := .builtin .append, args := #[x, y], argTypes := #[35, 35] }) = apEv 39 2 24 s.nx s.ob (ρ x) (obOf s.ob (ρ x)) (sliceEs s.ob 2 (ρ y)) := eap_of el_35 ze_39 sz_39 by_39 (by decide) rfl s ρ x y
theorem ecp_35 {Γ : Ctx} (s : AS) (ρ : Operand → PV) (x y : Operand) (t' : Nat) : evEff Try.prog Γ s ρ (.call { callee := .builtin .copy, args := #[x, y], argTypes := #[35, t'] }) = cpX 2 s.nx s.ob (ρ x) (obOf s.ob (ρ x)) (srcEs s.ob 2 (ρ y)) := ecp_of el_35 sz_39 s ρ x y t'
theorem bs_35 : isByteSlice Try.prog 35 = false := by kernel_rfl
theorem is_35 : isStr Try.prog 35 = false := by kernel_rfl
theorem sz_41 : tySize Try.prog 41 = some 1 := by kernel_rfl
theorem ag_41 : tyAgg Try.prog 41 = some false := by kernel_rfl
theorem by_41 : tyBytes Try.prog 41 = some 24 := by kernel_rfl
theorem ze_41 : zeroOf Try.prog 41 = some (.slice none 0 0) := by kernel_rfl
theorem un_41 : Try.prog.underlying 41 = some (.slice 29) := by kernel_rfl
theorem el_41 : tyElem Try.prog 41 = some 29 := by kernel_rfl
theorem ix_41 {k : Bool} {es : List PV} {i : Int} (h0 : 0 ≤ i) (h1 : i < (es.length : Int)) : evIndexAddr Try.prog 41 (.lst k 4 es) i = some (.ptr k ((es[i.toNat]?).getD .dead) 0) := ix_lst un_41 sz_29 h0 h1
theorem ixr_41 {o j n : Nat} {i : Int} (h0 : 0 ≤ i) (h1 : i < (n : Int)) : evIndexAddr Try.prog 41 (.row o 4 j n) i = some (.own o 4 (j + i.toNat) 0) := ix_row un_41 sz_29 h0 h1
theorem sl_41 {k : Bool} {es : List PV} {lo hi : Option Int} (h0 : 0 ≤ lo.getD 0) (h1 : lo.getD 0 ≤ hi.getD es.length) (h2 : hi.getD es.length ≤ es.length) : evSlice Try.prog 41 (.lst k 4 es) lo hi = some (.lst k 4 ((es.drop (lo.getD 0).toNat).take ((hi.getD es.length).toNat - (lo.getD 0).toNat))) := sl_lst un_41 sz_29 h0 h1 h2
theorem slr_41 {o i n : Nat} {lo hi : Option Int} (h0 : 0 ≤ lo.getD 0) (h1 : lo.getD 0 < hi.getD n) (h2 : hi.getD n ≤ n) : evSlice Try.prog 41 (.row o 4 i n) lo hi = some (.row o 4 (i + (lo.getD 0).toNat) ((hi.getD n).toNat - (lo.getD 0).toNat)) := sl_rowlt un_41 sz_29 h0 h1 h2
theorem sle_41 {o i n : Nat} {lo hi : Option Int} (h0 : 0 ≤ lo.getD 0) (h1 : lo.getD 0 = hi.getD n) (h2 : hi.getD n ≤ n) : evSlice Try.prog 41 (.row o 4 i n) lo hi = some (.lst true 4 []) := sl_roweq un_41 sz_29 h0 h1 h2
theorem lpl_41 {ty sz : Nat} {k : Bool} {es : List PV} : lenP Try.prog 41 ty (.lst k sz es) = some (.val (.int .i64 es.length)) := lp_lst el_41
theorem lpr_41 {ty o sz i n : Nat} : lenP Try.prog 41 ty (.row o sz i n) = some (.val (.int .i64 n)) := lp_row el_41
theorem lpn_41 {ty : Nat} : lenP Try.prog 41 ty (.val (.slice none 0 0)) = some (.val (.int .i64 0)) := lp_nil un_41
theorem oz_41 : ofVal (.slice none 0 0) = .val (.slice none 0 0) := rfl
theorem ea_41 {Γ : Ctx} (s : AS) (ρ : Operand → PV) : evEff Try.prog Γ s ρ (.alloc 41) = some (.own s.nx 1 0 0, upd s.ob s.nx (some (41, 1, [.val (.slice none 0 0)])), s.nx + 1) := ea_of ze_41 (by kernel_rfl) rfl rfl s ρ
theorem em_41 {Γ : Ctx} (s : AS) (ρ : Operand → PV) (l c : Operand) : evEff Try.prog Γ s ρ (.makeSlice 41 l c) = mkEv 29 4 32 (.agg #[.int .i64 0, .int .i64 0, .int .i64 0, .int .i64 0]) s (ρ l) (ρ c) := em_of el_41 ze_29 sz_29 by_29 (by kernel_rfl) rfl s ρ l c
theorem eap_41 {Γ : Ctx} (s : AS) (ρ : Operand → PV) (x y : Operand) : evEff Try.prog Γ s ρ (.call { callee := .builtin .append, args := #[x, y], argTypes := #[41, 41] }) = apEv 29 4 32 s.nx s.ob (ρ x) (obOf s.ob (ρ x)) (sliceEs s.ob 4 (ρ y)) := eap_of el_41 ze_29 sz_29 by_29 (by decide) rfl s ρ x y
theorem ecp_41 {Γ : Ctx} (s : AS) (ρ : Operand → PV) (x y : Operand) (t' : Nat) : evEff Try.prog Γ s ρ (.call { callee := .builtin .copy, args := #[x, y], argTypes := #[41, t'] }) = cpX 4 s.nx s.ob (ρ x) (obOf s.ob (ρ x)) (srcEs s.ob 4 (ρ y)) := ecp_of el_41 sz_29 s ρ x y t'
theorem bs_41 : isByteSlice Try.prog 41 = false := by kernel_rfl
theorem is_41 : isStr Try.prog 41 = false := by kernel_rfl
theorem sz_47 : tySize Try.prog 47 = some 1 := by kernel_rfl
theorem ag_47 : tyAgg Try.prog 47 = some false := by kernel_rfl
theorem by_47 : tyBytes Try.prog 47 = some 24 := by kernel_rfl
theorem ze_47 : zeroOf Try.prog 47 = some (.slice none 0 0) := by kernel_rfl
theorem un_47 : Try.prog.underlying 47 = some (.slice 51) := by kernel_rfl
theorem el_47 : tyElem Try.prog 47 = some 51 := by kernel_rfl
theorem ix_47 {k : Bool} {es : List PV} {i : Int} (h0 : 0 ≤ i) (h1 : i < (es.length : Int)) : evIndexAddr Try.prog 47 (.lst k 3 es) i = some (.ptr k ((es[i.toNat]?).getD .dead) 0) := ix_lst un_47 sz_51 h0 h1
theorem ixr_47 {o j n : Nat} {i : Int} (h0 : 0 ≤ i) (h1 : i < (n : Int)) : evIndexAddr Try.prog 47 (.row o 3 j n) i = some (.own o 3 (j + i.toNat) 0) := ix_row un_47 sz_51 h0 h1
theorem sl_47 {k : Bool} {es : List PV} {lo hi : Option Int} (h0 : 0 ≤ lo.getD 0) (h1 : lo.getD 0 ≤ hi.getD es.length) (h2 : hi.getD es.length ≤ es.length) : evSlice Try.prog 47 (.lst k 3 es) lo hi = some (.lst k 3 ((es.drop (lo.getD 0).toNat).take ((hi.getD es.length).toNat - (lo.getD 0).toNat))) := sl_lst un_47 sz_51 h0 h1 h2
theorem slr_47 {o i n : Nat} {lo hi : Option Int} (h0 : 0 ≤ lo.getD 0) (h1 : lo.getD 0 < hi.getD n) (h2 : hi.getD n ≤ n) : evSlice Try.prog 47 (.row o 3 i n) lo hi = some (.row o 3 (i + (lo.getD 0).toNat) ((hi.getD n).toNat - (lo.getD 0).toNat)) := sl_rowlt un_47 sz_51 h0 h1 h2
theorem sle_47 {o i n : Nat} {lo hi : Option Int} (h0 : 0 ≤ lo.getD 0) (h1 : lo.getD 0 = hi.getD n) (h2 : hi.getD n ≤ n) : evSlice Try.prog 47 (.row o 3 i n) lo hi = some (.lst true 3 []) := sl_roweq un_47 sz_51 h0 h1 h2
theorem lpl_47 {ty sz : Nat} {k : Bool} {es : List PV} : lenP Try.prog 47 ty (.lst k sz es) = some (.val (.int .i64 es.length)) := lp_lst el_47
theorem lpr_47 {ty o sz i n : Nat} : lenP Try.prog 47 ty (.row o sz i n) = some (.val (.int .i64 n)) := lp_row el_47
theorem lpn_47 {ty : Nat} : lenP Try.prog 47 ty (.val (.slice none 0 0)) = some (.val (.int .i64 0)) := lp_nil un_47
theorem oz_47 : ofVal (.slice none 0 0) = .val (.slice none 0 0) := rfl
theorem ea_47 {Γ : Ctx} (s : AS) (ρ : Operand → PV) : evEff Try.prog Γ s ρ (.alloc 47) = some (.own s.nx 1 0 0, upd s.ob s.nx (some (47, 1, [.val (.slice none 0 0)])), s.nx + 1) := ea_of ze_47 (by kernel_rfl) rfl rfl s ρ
theorem em_47 {Γ : Ctx} (s : AS) (ρ : Operand → PV) (l c : Operand) : evEff Try.prog Γ s ρ (.makeSlice 47 l c) = mkEv 51 3 24 (.agg #[.int .i64 0, .int .i64 0, .int .i64 0]) s (ρ l) (ρ c) := em_of el_47 ze_51 sz_51 by_51 (by kernel_rfl) rfl s ρ l c
theorem eap_47 {Γ : Ctx} (s : AS) (ρ : Operand → PV) (x y : Operand) : evEff Try.prog Γ s ρ (.call { callee := .builtin .append, args := #[x, y], argTypes := #[47, 47] }) = apEv 51 3 24 s.nx s.ob (ρ x) (obOf s.ob (ρ x)) (sliceEs s.ob 3 (ρ y)) := eap_of el_47 ze_51 sz_51 by_51 (by decide) rfl s ρ x y
theorem ecp_47 {Γ : Ctx} (s : AS) (ρ : Operand → PV) (x y : Operand) (t' : Nat) : evEff Try.prog Γ s ρ (.call { callee := .builtin .copy, args := #[x, y], argTypes := #[47, t'] }) = cpX 3 s.nx s.ob (ρ x) (obOf s.ob (ρ x)) (srcEs s.ob 3 (ρ y)) := ecp_of el_47 sz_51 s ρ x y t'
theorem bs_47 : isByteSlice Try.prog 47 = false := by kernel_rfl
theorem is_47 : isStr Try.prog 47 = false := by kernel_rfl
theorem sz_53 : tySize Try.prog 53 = some 1 := by kernel_rfl
theorem ag_53 : tyAgg Try.prog 53 = some false := by kernel_rfl
theorem by_53 : tyBytes Try.prog 53 = some 24 := by kernel_rfl
theorem ze_53 : zeroOf Try.prog 53 = some (.slice none 0 0) := by kernel_rfl
theorem un_53 : Try.prog.underlying 53 = some (.slice 9) := by kernel_rfl
theorem el_53 : tyElem Try.prog 53 = some 9 := by kernel_rfl
theorem ix_53 {k : Bool} {es : List PV} {i : Int} (h0 : 0 ≤ i) (h1 : i < (es.length : Int)) : evIndexAddr Try.prog 53 (.lst k 1 es) i = some (.ptr k ((es[i.toNat]?).getD .dead) 0) := ix_lst un_53 sz_9 h0 h1
theorem ixr_53 {o j n : Nat} {i : Int} (h0 : 0 ≤ i) (h1 : i < (n : Int)) : evIndexAddr Try.prog 53 (.row o 1 j n) i = some (.own o 1 (j + i.toNat) 0) := ix_row un_53 sz_9 h0 h1
theorem sl_53 {k : Bool} {es : List PV} {lo hi : Option Int} (h0 : 0 ≤ lo.getD 0) (h1 : lo.getD 0 ≤ hi.getD es.length) (h2 : hi.getD es.length ≤ es.length) : evSlice Try.prog 53 (.lst k 1 es) lo hi = some (.lst k 1 ((es.drop (lo.getD 0).toNat).take ((hi.getD es.length).toNat - (lo.getD 0).toNat))) := sl_lst un_53 sz_9 h0 h1 h2
theorem slr_53 {o i n : Nat} {lo hi : Option Int} (h0 : 0 ≤ lo.getD 0) (h1 : lo.getD 0 < hi.getD n) (h2 : hi.getD n ≤ n) : evSlice Try.prog 53 (.row o 1 i n) lo hi = some (.row o 1 (i + (lo.getD 0).toNat) ((hi.getD n).toNat - (lo.getD 0).toNat)) := sl_rowlt un_53 sz_9 h0 h1 h2
theorem sle_53 {o i n : Nat} {lo hi : Option Int} (h0 : 0 ≤ lo.getD 0) (h1 : lo.getD 0 = hi.getD n) (h2 : hi.getD n ≤ n) : evSlice Try.prog 53 (.row o 1 i n) lo hi = some (.lst true 1 []) := sl_roweq un_53 sz_9 h0 h1 h2
theorem lpl_53 {ty sz : Nat} {k : Bool} {es : List PV} : lenP Try.prog 53 ty (.lst k sz es) = some (.val (.int .i64 es.length)) := lp_lst el_53
theorem lpr_53 {ty o sz i n : Nat} : lenP Try.prog 53 ty (.row o sz i n) = some (.val (.int .i64 n)) := lp_row el_53
theorem lpn_53 {ty : Nat} : lenP Try.prog 53 ty (.val (.slice none 0 0)) = some (.val (.int .i64 0)) := lp_nil un_53
theorem oz_53 : ofVal (.slice none 0 0) = .val (.slice none 0 0) := rfl
theorem ea_53 {Γ : Ctx} (s : AS) (ρ : Operand → PV) : evEff Try.prog Γ s ρ (.alloc 53) = some (.own s.nx 1 0 0, upd s.ob s.nx (some (53, 1, [.val (.slice none 0 0)])), s.nx + 1) := ea_of ze_53 (by kernel_rfl) rfl rfl s ρ
theorem em_53 {Γ : Ctx} (s : AS) (ρ : Operand → PV) (l c : Operand) : evEff Try.prog Γ s ρ (.makeSlice 53 l c) = mkEv 9 1 16 (.string ByteArray.empty) s (ρ l) (ρ c) := em_of el_53 ze_9 sz_9 by_9 (by kernel_rfl) rfl s ρ l c
theorem eap_53 {Γ : Ctx} (s : AS) (ρ : Operand → PV) (x y : Operand) : evEff Try.prog Γ s ρ (.call { callee := .builtin .append, args := #[x, y], argTypes := #[53, 53] }) = apEv 9 1 16 s.nx s.ob (ρ x) (obOf s.ob (ρ x)) (sliceEs s.ob 1 (ρ y)) := eap_of el_53 ze_9 sz_9 by_9 (by decide) rfl s ρ x y
theorem ecp_53 {Γ : Ctx} (s : AS) (ρ : Operand → PV) (x y : Operand) (t' : Nat) : evEff Try.prog Γ s ρ (.call { callee := .builtin .copy, args := #[x, y], argTypes := #[53, t'] }) = cpX 1 s.nx s.ob (ρ x) (obOf s.ob (ρ x)) (srcEs s.ob 1 (ρ y)) := ecp_of el_53 sz_9 s ρ x y t'
theorem bs_53 : isByteSlice Try.prog 53 = false := by kernel_rfl
theorem is_53 : isStr Try.prog 53 = false := by kernel_rfl
theorem sz_59 : tySize Try.prog 59 = some 1 := by kernel_rfl
theorem ag_59 : tyAgg Try.prog 59 = some false := by kernel_rfl
theorem by_59 : tyBytes Try.prog 59 = some 24 := by kernel_rfl
theorem ze_59 : zeroOf Try.prog 59 = some (.slice none 0 0) := by kernel_rfl
theorem un_59 : Try.prog.underlying 59 = some (.slice 101) := by kernel_rfl
theorem el_59 : tyElem Try.prog 59 = some 101 := by kernel_rfl
theorem ix_59 {k : Bool} {es : List PV} {i : Int} (h0 : 0 ≤ i) (h1 : i < (es.length : Int)) : evIndexAddr Try.prog 59 (.lst k 3 es) i = some (.ptr k ((es[i.toNat]?).getD .dead) 0) := ix_lst un_59 sz_101 h0 h1
theorem ixr_59 {o j n : Nat} {i : Int} (h0 : 0 ≤ i) (h1 : i < (n : Int)) : evIndexAddr Try.prog 59 (.row o 3 j n) i = some (.own o 3 (j + i.toNat) 0) := ix_row un_59 sz_101 h0 h1
theorem sl_59 {k : Bool} {es : List PV} {lo hi : Option Int} (h0 : 0 ≤ lo.getD 0) (h1 : lo.getD 0 ≤ hi.getD es.length) (h2 : hi.getD es.length ≤ es.length) : evSlice Try.prog 59 (.lst k 3 es) lo hi = some (.lst k 3 ((es.drop (lo.getD 0).toNat).take ((hi.getD es.length).toNat - (lo.getD 0).toNat))) := sl_lst un_59 sz_101 h0 h1 h2
theorem slr_59 {o i n : Nat} {lo hi : Option Int} (h0 : 0 ≤ lo.getD 0) (h1 : lo.getD 0 < hi.getD n) (h2 : hi.getD n ≤ n) : evSlice Try.prog 59 (.row o 3 i n) lo hi = some (.row o 3 (i + (lo.getD 0).toNat) ((hi.getD n).toNat - (lo.getD 0).toNat)) := sl_rowlt un_59 sz_101 h0 h1 h2
theorem sle_59 {o i n : Nat} {lo hi : Option Int} (h0 : 0 ≤ lo.getD 0) (h1 : lo.getD 0 = hi.getD n) (h2 : hi.getD n ≤ n) : evSlice Try.prog 59 (.row o 3 i n) lo hi = some (.lst true 3 []) := sl_roweq un_59 sz_101 h0 h1 h2
theorem lpl_59 {ty sz : Nat} {k : Bool} {es : List PV} : lenP Try.prog 59 ty (.lst k sz es) = some (.val (.int .i64 es.length)) := lp_lst el_59
theorem lpr_59 {ty o sz i n : Nat} : lenP Try.prog 59 ty (.row o sz i n) = some (.val (.int .i64 n)) := lp_row el_59
theorem lpn_59 {ty : Nat} : lenP Try.prog 59 ty (.val (.slice none 0 0)) = some (.val (.int .i64 0)) := lp_nil un_59
theorem oz_59 : ofVal (.slice none 0 0) = .val (.slice none 0 0) := rfl
theorem ea_59 {Γ : Ctx} (s : AS) (ρ : Operand → PV) : evEff Try.prog Γ s ρ (.alloc 59) = some (.own s.nx 1 0 0, upd s.ob s.nx (some (59, 1, [.val (.slice none 0 0)])), s.nx + 1) := ea_of ze_59 (by kernel_rfl) rfl rfl s ρ
theorem em_59 {Γ : Ctx} (s : AS) (ρ : Operand → PV) (l c : Operand) : evEff Try.prog Γ s ρ (.makeSlice 59 l c) = mkEv 101 3 24 (.agg #[.int .i64 0, .int .i64 0, .int .i64 0]) s (ρ l) (ρ c) := em_of el_59 ze_101 sz_101 by_101 (by kernel_rfl) rfl s ρ l c
theorem eap_59 {Γ : Ctx} (s : AS) (ρ : Operand → PV) (x y : Operand) : evEff Try.prog Γ s ρ (.call { callee := .builtin .append, args := #[x, y], argTypes := #[59, 59] }) = apEv 101 3 24 s.nx s.ob (ρ x) (obOf s.ob (ρ x)) (sliceEs s.ob 3 (ρ y)) := eap_of el_59 ze_101 sz_101 by_101 (by decide) rfl s ρ x y
theorem ecp_59 {Γ : Ctx} (s : AS) (ρ : Operand → PV) (x y : Operand) (t' : Nat) : evEff Try.prog Γ s ρ (.call { callee := .builtin .copy, args := #[x, y], argTypes := #[59, t'] }) = cpX 3 s.nx s.ob (ρ x) (obOf s.ob (ρ x)) (srcEs s.ob 3 (ρ y)) := ecp_of el_59 sz_101 s ρ x y t'
theorem bs_59 : isByteSlice Try.prog 59 = false := by kernel_rfl
theorem is_59 : isStr Try.prog 59 = false := by kernel_rfl
theorem sz_52 : tySize Try.prog 52 = some 1 := by kernel_rfl
theorem ag_52 : tyAgg Try.prog 52 = some false := by kernel_rfl
theorem by_52 : tyBytes Try.prog 52 = some 24 := by kernel_rfl
theorem ze_52 : zeroOf Try.prog 52 = some (.slice none 0 0) := by kernel_rfl
theorem un_52 : Try.prog.underlying 52 = some (.slice 53) := by kernel_rfl
theorem el_52 : tyElem Try.prog 52 = some 53 := by kernel_rfl
theorem ix_52 {k : Bool} {es : List PV} {i : Int} (h0 : 0 ≤ i) (h1 : i < (es.length : Int)) : evIndexAddr Try.prog 52 (.lst k 1 es) i = some (.ptr k ((es[i.toNat]?).getD .dead) 0) := ix_lst un_52 sz_53 h0 h1
theorem ixr_52 {o j n : Nat} {i : Int} (h0 : 0 ≤ i) (h1 : i < (n : Int)) : evIndexAddr Try.prog 52 (.row o 1 j n) i = some (.own o 1 (j + i.toNat) 0) := ix_row un_52 sz_53 h0 h1
theorem sl_52 {k : Bool} {es : List PV} {lo hi : Option Int} (h0 : 0 ≤ lo.getD 0) (h1 : lo.getD 0 ≤ hi.getD es.length) (h2 : hi.getD es.length ≤ es.length) : evSlice Try.prog 52 (.lst k 1 es) lo hi = some (.lst k 1 ((es.drop (lo.getD 0).toNat).take ((hi.getD es.length).toNat - (lo.getD 0).toNat))) := sl_lst un_52 sz_53 h0 h1 h2
theorem slr_52 {o i n : Nat} {lo hi : Option Int} (h0 : 0 ≤ lo.getD 0) (h1 : lo.getD 0 < hi.getD n) (h2 : hi.getD n ≤ n) : evSlice Try.prog 52 (.row o 1 i n) lo hi = some (.row o 1 (i + (lo.getD 0).toNat) ((hi.getD n).toNat - (lo.getD 0).toNat)) := sl_rowlt un_52 sz_53 h0 h1 h2
theorem sle_52 {o i n : Nat} {lo hi : Option Int} (h0 : 0 ≤ lo.getD 0) (h1 : lo.getD 0 = hi.getD n) (h2 : hi.getD n ≤ n) : evSlice Try.prog 52 (.row o 1 i n) lo hi = some (.lst true 1 []) := sl_roweq un_52 sz_53 h0 h1 h2
theorem lpl_52 {ty sz : Nat} {k : Bool} {es : List PV} : lenP Try.prog 52 ty (.lst k sz es) = some (.val (.int .i64 es.length)) := lp_lst el_52
theorem lpr_52 {ty o sz i n : Nat} : lenP Try.prog 52 ty (.row o sz i n) = some (.val (.int .i64 n)) := lp_row el_52
theorem lpn_52 {ty : Nat} : lenP Try.prog 52 ty (.val (.slice none 0 0)) = some (.val (.int .i64 0)) := lp_nil un_52
theorem oz_52 : ofVal (.slice none 0 0) = .val (.slice none 0 0) := rfl
theorem ea_52 {Γ : Ctx} (s : AS) (ρ : Operand → PV) : evEff Try.prog Γ s ρ (.alloc 52) = some (.own s.nx 1 0 0, upd s.ob s.nx (some (52, 1, [.val (.slice none 0 0)])), s.nx + 1) := ea_of ze_52 (by kernel_rfl) rfl rfl s ρ
theorem em_52 {Γ : Ctx} (s : AS) (ρ : Operand → PV) (l c : Operand) : evEff Try.prog Γ s ρ (.makeSlice 52 l c) = mkEv 53 1 24 (.slice none 0 0) s (ρ l) (ρ c) := em_of el_52 ze_53 sz_53 by_53 (by kernel_rfl) rfl s ρ l c
theorem eap_52 {Γ : Ctx} (s : AS) (ρ : Operand → PV) (x y : Operand) : evEff Try.prog Γ s ρ (.call { callee := .builtin .append, args := #[x, y], argTypes := #[52, 52] }) = apEv 53 1 24 s.nx s.ob (ρ x) (obOf s.ob (ρ x)) (sliceEs s.ob 1 (ρ y)) := eap_of el_52 ze_53 sz_53 by_53 (by decide) rfl s ρ x y
theorem ecp_52 {Γ : Ctx} (s : AS) (ρ : Operand → PV) (x y : Operand) (t' : Nat) : evEff Try.prog Γ s ρ (.call { callee := .builtin .copy, args := #[x, y], argTypes := #[52, t'] }) = cpX 1 s.nx s.ob (ρ x) (obOf s.ob (ρ x)) (srcEs s.ob 1 (ρ y)) := ecp_of el_52 sz_53 s ρ x y t'
theorem bs_52 : isByteSlice Try.prog 52 = false := by kernel_rfl
theorem is_52 : isStr Try.prog 52 = false := by kernel_rfl
theorem cvi_2_2 {k : IntKind} {n : Int} {es : Option (List PV)} : convP Try.prog 2 2 false es (some (.int k n)) = some (.val (.int .i64 (IntKind.i64.wrap n))) := cv_int un_2 un_2
theorem cvi_2_3 {k : IntKind} {n : Int} {es : Option (List PV)} : convP Try.prog 2 3 false es (some (.int k n)) = some (.val (.int .i64 (IntKind.i64.wrap n))) := cv_int un_2 un_3
theorem cvi_2_5 {k : IntKind} {n : Int} {es : Option (List PV)} : convP Try.prog 2 5 false es (some (.int k n)) = some (.val (.int .u8 (IntKind.u8.wrap n))) := cv_int un_2 un_5
theorem cvi_2_12 {k : IntKind} {n : Int} {es : Option (List PV)} : convP Try.prog 2 12 false es (some (.int k n)) = some (.val (.int .u64 (IntKind.u64.wrap n))) := cv_int un_2 un_12
theorem cvi_2_21 {k : IntKind} {n : Int} {es : Option (List PV)} : convP Try.prog 2 21 false es (some (.int k n)) = some (.val (.int .i32 (IntKind.i32.wrap n))) := cv_int un_2 un_21
theorem cvi_2_135 {k : IntKind} {n : Int} {es : Option (List PV)} : convP Try.prog 2 135 false es (some (.int k n)) = some (.val (.int .u32 (IntKind.u32.wrap n))) := cv_int un_2 un_135
theorem cvi_3_2 {k : IntKind} {n : Int} {es : Option (List PV)} : convP Try.prog 3 2 false es (some (.int k n)) = some (.val (.int .i64 (IntKind.i64.wrap n))) := cv_int un_3 un_2
theorem cvi_3_3 {k : IntKind} {n : Int} {es : Option (List PV)} : convP Try.prog 3 3 false es (some (.int k n)) = some (.val (.int .i64 (IntKind.i64.wrap n))) := cv_int un_3 un_3
theorem cvi_3_5 {k : IntKind} {n : Int} {es : Option (List PV)} : convP Try.prog 3 5 false es (some (.int k n)) = some (.val (.int .u8 (IntKind.u8.wrap n))) := cv_int un_3 un_5
theorem cvi_3_12 {k : IntKind} {n : Int} {es : Option (List PV)} : convP Try.prog 3 12 false es (some (.int k n)) = some (.val (.int .u64 (IntKind.u64.wrap n))) := cv_int un_3 un_12
theorem cvi_3_21 {k : IntKind} {n : Int} {es : Option (List PV)} : convP Try.prog 3 21 false es (some (.int k n)) = some (.val (.int .i32 (IntKind.i32.wrap n))) := cv_int un_3 un_21
theorem cvi_3_135 {k : IntKind} {n : Int} {es : Option (List PV)} : convP Try.prog 3 135 false es (some (.int k n)) = some (.val (.int .u32 (IntKind.u32.wrap n))) := cv_int un_3 un_135
theorem cvi_5_2 {k : IntKind} {n : Int} {es : Option (List PV)} : convP Try.prog 5 2 false es (some (.int k n)) = some (.val (.int .i64 (IntKind.i64.wrap n))) := cv_int un_5 un_2
theorem cvi_5_3 {k : IntKind} {n : Int} {es : Option (List PV)} : convP Try.prog 5 3 false es (some (.int k n)) = some (.val (.int .i64 (IntKind.i64.wrap n))) := cv_int un_5 un_3
theorem cvi_5_5 {k : IntKind} {n : Int} {es : Option (List PV)} : convP Try.prog 5 5 false es (some (.int k n)) = some (.val (.int .u8 (IntKind.u8.wrap n))) := cv_int un_5 un_5
theorem cvi_5_12 {k : IntKind} {n : Int} {es : Option (List PV)} : convP Try.prog 5 12 false es (some (.int k n)) = some (.val (.int .u64 (IntKind.u64.wrap n))) := cv_int un_5 un_12
theorem cvi_5_21 {k : IntKind} {n : Int} {es : Option (List PV)} : convP Try.prog 5 21 false es (some (.int k n)) = some (.val (.int .i32 (IntKind.i32.wrap n))) := cv_int un_5 un_21
theorem cvi_5_135 {k : IntKind} {n : Int} {es : Option (List PV)} : convP Try.prog 5 135 false es (some (.int k n)) = some (.val (.int .u32 (IntKind.u32.wrap n))) := cv_int un_5 un_135
theorem cvi_12_2 {k : IntKind} {n : Int} {es : Option (List PV)} : convP Try.prog 12 2 false es (some (.int k n)) = some (.val (.int .i64 (IntKind.i64.wrap n))) := cv_int un_12 un_2
theorem cvi_12_3 {k : IntKind} {n : Int} {es : Option (List PV)} : convP Try.prog 12 3 false es (some (.int k n)) = some (.val (.int .i64 (IntKind.i64.wrap n))) := cv_int un_12 un_3
theorem cvi_12_5 {k : IntKind} {n : Int} {es : Option (List PV)} : convP Try.prog 12 5 false es (some (.int k n)) = some (.val (.int .u8 (IntKind.u8.wrap n))) := cv_int un_12 un_5
theorem cvi_12_12 {k : IntKind} {n : Int} {es : Option (List PV)} : convP Try.prog 12 12 false es (some (.int k n)) = some (.val (.int .u64 (IntKind.u64.wrap n))) := cv_int un_12 un_12
theorem cvi_12_21 {k : IntKind} {n : Int} {es : Option (List PV)} : convP Try.prog 12 21 false es (some (.int k n)) = some (.val (.int .i32 (IntKind.i32.wrap n))) := cv_int un_12 un_21
theorem cvi_12_135 {k : IntKind} {n : Int} {es : Option (List PV)} : convP Try.prog 12 135 false es (some (.int k n)) = some (.val (.int .u32 (IntKind.u32.wrap n))) := cv_int un_12 un_135
theorem cvi_21_2 {k : IntKind} {n : Int} {es : Option (List PV)} : convP Try.prog 21 2 false es (some (.int k n)) = some (.val (.int .i64 (IntKind.i64.wrap n))) := cv_int un_21 un_2
theorem cvi_21_3 {k : IntKind} {n : Int} {es : Option (List PV)} : convP Try.prog 21 3 false es (some (.int k n)) = some (.val (.int .i64 (IntKind.i64.wrap n))) := cv_int un_21 un_3
theorem cvi_21_5 {k : IntKind} {n : Int} {es : Option (List PV)} : convP Try.prog 21 5 false es (some (.int k n)) = some (.val (.int .u8 (IntKind.u8.wrap n))) := cv_int un_21 un_5
theorem cvi_21_12 {k : IntKind} {n : Int} {es : Option (List PV)} : convP Try.prog 21 12 false es (some (.int k n)) = some (.val (.int .u64 (IntKind.u64.wrap n))) := cv_int un_21 un_12
theorem cvi_21_21 {k : IntKind} {n : Int} {es : Option (List PV)} : convP Try.prog 21 21 false es (some (.int k n)) = some (.val (.int .i32 (IntKind.i32.wrap n))) := cv_int un_21 un_21
theorem cvi_21_135 {k : IntKind} {n : Int} {es : Option (List PV)} : convP Try.prog 21 135 false es (some (.int k n)) = some (.val (.int .u32 (IntKind.u32.wrap n))) := cv_int un_21 un_135
theorem cvi_135_2 {k : IntKind} {n : Int} {es : Option (List PV)} : convP Try.prog 135 2 false es (some (.int k n)) = some (.val (.int .i64 (IntKind.i64.wrap n))) := cv_int un_135 un_2
theorem cvi_135_3 {k : IntKind} {n : Int} {es : Option (List PV)} : convP Try.prog 135 3 false es (some (.int k n)) = some (.val (.int .i64 (IntKind.i64.wrap n))) := cv_int un_135 un_3
theorem cvi_135_5 {k : IntKind} {n : Int} {es : Option (List PV)} : convP Try.prog 135 5 false es (some (.int k n)) = some (.val (.int .u8 (IntKind.u8.wrap n))) := cv_int un_135 un_5
theorem cvi_135_12 {k : IntKind} {n : Int} {es : Option (List PV)} : convP Try.prog 135 12 false es (some (.int k n)) = some (.val (.int .u64 (IntKind.u64.wrap n))) := cv_int un_135 un_12
theorem cvi_135_21 {k : IntKind} {n : Int} {es : Option (List PV)} : convP Try.prog 135 21 false es (some (.int k n)) = some (.val (.int .i32 (IntKind.i32.wrap n))) := cv_int un_135 un_21
theorem cvi_135_135 {k : IntKind} {n : Int} {es : Option (List PV)} : convP Try.prog 135 135 false es (some (.int k n)) = some (.val (.int .u32 (IntKind.u32.wrap n))) := cv_int un_135 un_135
theorem rw_22_0 : rowEs Try.prog 22 0 [] = rowC 5 1 [] (true) := rw_of el_22 sz_5 ze_5 _ (by decide) (by decide) rfl
theorem rw_22_1 {a0 : PV} : rowEs Try.prog 22 1 [(0, a0)] = rowC 5 1 [a0] (okP 1 a0 && (true)) := rw_of el_22 sz_5 ze_5 _ (by decide) (by decide) rfl
theorem rw_22_3 {a0 a1 a2 : PV} : rowEs Try.prog 22 3 [(0, a0), (1, a1), (2, a2)] = rowC 5 1 [a0, a1, a2] (okP 1 a0 && (okP 1 a1 && (okP 1 a2 && (true)))) := rw_of el_22 sz_5 ze_5 _ (by decide) (by decide) rfl
theorem rw_23_0 : rowEs Try.prog 23 0 [] = rowC 3 1 [] (true) := rw_of el_23 sz_3 ze_3 _ (by decide) (by decide) rfl
theorem rw_23_1 {a0 : PV} : rowEs Try.prog 23 1 [(0, a0)] = rowC 3 1 [a0] (okP 1 a0 && (true)) := rw_of el_23 sz_3 ze_3 _ (by decide) (by decide) rfl
theorem rw_23_2 {a0 a1 : PV} : rowEs Try.prog 23 2 [(0, a0), (1, a1)] = rowC 3 1 [a0, a1] (okP 1 a0 && (okP 1 a1 && (true))) := rw_of el_23 sz_3 ze_3 _ (by decide) (by decide) rfl
theorem rw_23_3 {a0 a1 a2 : PV} : rowEs Try.prog 23 3 [(0, a0), (1, a1), (2, a2)] = rowC 3 1 [a0, a1, a2] (okP 1 a0 && (okP 1 a1 && (okP 1 a2 && (true)))) := rw_of el_23 sz_3 ze_3 _ (by decide) (by decide) rfl
theorem rw_23_4 {a0 a1 a2 a3 : PV} : rowEs Try.prog 23 4 [(0, a0), (1, a1), (2, a2), (3, a3)] = rowC 3 1 [a0, a1, a2, a3] (okP 1 a0 && (okP 1 a1 && (okP 1 a2 && (okP 1 a3 && (true))))) := rw_of el_23 sz_3 ze_3 _ (by decide) (by decide) rfl
theorem rw_23_5 {a0 a1 a2 a3 a4 : PV} : rowEs Try.prog 23 5 [(0, a0), (1, a1), (2, a2), (3, a3), (4, a4)] = rowC 3 1 [a0, a1, a2, a3, a4] (okP 1 a0 && (okP 1 a1 && (okP 1 a2 && (okP 1 a3 && (okP 1 a4 && (true)))))) := rw_of el_23 sz_3 ze_3 _ (by decide) (by decide) rfl
theorem rw_23_6 {a0 a1 a2 a3 a4 a5 : PV} : rowEs Try.prog 23 6 [(0, a0), (1, a1), (2, a2), (3, a3), (4, a4), (5, a5)] = rowC 3 1 [a0, a1, a2, a3, a4, a5] (okP 1 a0 && (okP 1 a1 && (okP 1 a2 && (okP 1 a3 && (okP 1 a4 && (okP 1 a5 && (true))))))) := rw_of el_23 sz_3 ze_3 _ (by decide) (by decide) rfl
theorem rw_23_7 {a0 a1 a2 a3 a4 a5 a6 : PV} : rowEs Try.prog 23 7 [(0, a0), (1, a1), (2, a2), (3, a3), (4, a4), (5, a5), (6, a6)] = rowC 3 1 [a0, a1, a2, a3, a4, a5, a6] (okP 1 a0 && (okP 1 a1 && (okP 1 a2 && (okP 1 a3 && (okP 1 a4 && (okP 1 a5 && (okP 1 a6 && (true)))))))) := rw_of el_23 sz_3 ze_3 _ (by decide) (by decide) rfl
theorem rw_35_0 : rowEs Try.prog 35 0 [] = rowC 39 2 [] (true) := rw_of el_35 sz_39 ze_39 _ (by decide) (by decide) rfl
theorem rw_35_1 {a0 : PV} : rowEs Try.prog 35 1 [(0, a0)] = rowC 39 2 [a0] (okP 2 a0 && (true)) := rw_of el_35 sz_39 ze_39 _ (by decide) (by decide) rfl
theorem rw_35_3 {a0 a1 a2 : PV} : rowEs Try.prog 35 3 [(0, a0), (1, a1), (2, a2)] = rowC 39 2 [a0, a1, a2] (okP 2 a0 && (okP 2 a1 && (okP 2 a2 && (true)))) := rw_of el_35 sz_39 ze_39 _ (by decide) (by decide) rfl
theorem rw_41_0 : rowEs Try.prog 41 0 [] = rowC 29 4 [] (true) := rw_of el_41 sz_29 ze_29 _ (by decide) (by decide) rfl
theorem rw_41_1 {a0 : PV} : rowEs Try.prog 41 1 [(0, a0)] = rowC 29 4 [a0] (okP 4 a0 && (true)) := rw_of el_41 sz_29 ze_29 _ (by decide) (by decide) rfl
theorem rw_41_2 {a0 a1 : PV} : rowEs Try.prog 41 2 [(0, a0), (1, a1)] = rowC 29 4 [a0, a1] (okP 4 a0 && (okP 4 a1 && (true))) := rw_of el_41 sz_29 ze_29 _ (by decide) (by decide) rfl
theorem rw_41_4 {a0 a1 a2 a3 : PV} : rowEs Try.prog 41 4 [(0, a0), (1, a1), (2, a2), (3, a3)] = rowC 29 4 [a0, a1, a2, a3] (okP 4 a0 && (okP 4 a1 && (okP 4 a2 && (okP 4 a3 && (true))))) := rw_of el_41 sz_29 ze_29 _ (by decide) (by decide) rfl
theorem rw_47_0 : rowEs Try.prog 47 0 [] = rowC 51 3 [] (true) := rw_of el_47 sz_51 ze_51 _ (by decide) (by decide) rfl
theorem rw_47_1 {a0 : PV} : rowEs Try.prog 47 1 [(0, a0)] = rowC 51 3 [a0] (okP 3 a0 && (true)) := rw_of el_47 sz_51 ze_51 _ (by decide) (by decide) rfl
theorem rw_47_2 {a0 a1 : PV} : rowEs Try.prog 47 2 [(0, a0), (1, a1)] = rowC 51 3 [a0, a1] (okP 3 a0 && (okP 3 a1 && (true))) := rw_of el_47 sz_51 ze_51 _ (by decide) (by decide) rfl
theorem rw_52_0 : rowEs Try.prog 52 0 [] = rowC 53 1 [] (true) := rw_of el_52 sz_53 ze_53 _ (by decide) (by decide) rfl
theorem rw_52_1 {a0 : PV} : rowEs Try.prog 52 1 [(0, a0)] = rowC 53 1 [a0] (okP 1 a0 && (true)) := rw_of el_52 sz_53 ze_53 _ (by decide) (by decide) rfl
theorem rw_53_0 : rowEs Try.prog 53 0 [] = rowC 9 1 [] (true) := rw_of el_53 sz_9 ze_9 _ (by decide) (by decide) rfl
theorem rw_53_1 {a0 : PV} : rowEs Try.prog 53 1 [(0, a0)] = rowC 9 1 [a0] (okP 1 a0 && (true)) := rw_of el_53 sz_9 ze_9 _ (by decide) (by decide) rfl
theorem rw_53_5 {a0 a1 a2 a3 a4 : PV} : rowEs Try.prog 53 5 [(0, a0), (1, a1), (2, a2), (3, a3), (4, a4)] = rowC 9 1 [a0, a1, a2, a3, a4] (okP 1 a0 && (okP 1 a1 && (okP 1 a2 && (okP 1 a3 && (okP 1 a4 && (true)))))) := rw_of el_53 sz_9 ze_9 _ (by decide) (by decide) rfl
theorem rw_53_8 {a0 a1 a2 a3 a4 a5 a6 a7 : PV} : rowEs Try.prog 53 8 [(0, a0), (1, a1), (2, a2), (3, a3), (4, a4), (5, a5), (6, a6), (7, a7)] = rowC 9 1 [a0, a1, a2, a3, a4, a5, a6, a7] (okP 1 a0 && (okP 1 a1 && (okP 1 a2 && (okP 1 a3 && (okP 1 a4 && (okP 1 a5 && (okP 1 a6 && (okP 1 a7 && (true))))))))) := rw_of el_53 sz_9 ze_9 _ (by decide) (by decide) rfl
theorem rw_53_12 {a0 a1 a2 a3 a4 a5 a6 a7 a8 a9 a10 a11 : PV} : rowEs Try.prog 53 12 [(0, a0), (1, a1), (2, a2), (3, a3), (4, a4), (5, a5), (6, a6), (7, a7), (8, a8), (9, a9), (10, a10), (11, a11)] = rowC 9 1 [a0, a1, a2, a3, a4, a5, a6, a7, a8, a9, a10, a11] (okP 1 a0 && (okP 1 a1 && (okP 1 a2 && (okP 1 a3 && (okP 1 a4 && (okP 1 a5 && (okP 1 a6 && (okP 1 a7 && (okP 1 a8 && (okP 1 a9 && (okP 1 a10 && (okP 1 a11 && (true))))))))))))) := rw_of el_53 sz_9 ze_9 _ (by decide) (by decide) rfl
theorem rw_53_15 {a0 a1 a2 a3 a4 a5 a6 a7 a8 a9 a10 a11 a12 a13 a14 : PV} : rowEs Try.prog 53 15 [(0, a0), (1, a1), (2, a2), (3, a3), (4, a4), (5, a5), (6, a6), (7, a7), (8, a8), (9, a9), (10, a10), (11, a11), (12, a12), (13, a13), (14, a14)] = rowC 9 1 [a0, a1, a2, a3, a4, a5, a6, a7, a8, a9, a10, a11, a12, a13, a14] (okP 1 a0 && (okP 1 a1 && (okP 1 a2 && (okP 1 a3 && (okP 1 a4 && (okP 1 a5 && (okP 1 a6 && (okP 1 a7 && (okP 1 a8 && (okP 1 a9 && (okP 1 a10 && (okP 1 a11 && (okP 1 a12 && (okP 1 a13 && (okP 1 a14 && (true)))))))))))))))) := rw_of el_53 sz_9 ze_9 _ (by decide) (by decide) rfl
theorem mixed : Try.prog.follows .mixedOrders = true := by kernel_rfl
attribute [push_cast high]
  bz_7
  bz_13
  bz_28
  bz_29
  bz_38
  bz_39
  bz_42
  bz_43
  bz_50
  bz_51
  bz_54
  bz_55
  bz_81
  bz_82
  bz_101
  bz_107
  bz_108
attribute [push_cast]
  sz_2
  ag_2
  by_2
  ze_2
  un_2
  oz_2
  ea_2
  bs_2
  is_2
  sz_3
  ag_3
  by_3
  ze_3
  un_3
  oz_3
  ea_3
  bs_3
  is_3
  sz_4
  ag_4
  by_4
  ze_4
  un_4
  bqe_4
  bqn_4
  oz_4
  ea_4
  bs_4
  is_4
  sz_5
  ag_5
  by_5
  ze_5
  un_5
  oz_5
  ea_5
  bs_5
  is_5
  sz_7
  ag_7
  by_7
  ze_7
  fo_7_0
  fo_7_1
  fo_7_2
  fo_7_3
  pl_7
  bl_7
  oz_7
  ea_7
  bs_7
  is_7
  sz_9
  ag_9
  by_9
  ze_9
  un_9
  lps_9
  ixs_9
  oz_9
  ea_9
  bs_9
  is_9
  sz_12
  ag_12
  by_12
  ze_12
  un_12
  oz_12
  ea_12
  bs_12
  is_12
  sz_13
  ag_13
  by_13
  ze_13
  fo_13_0
  fo_13_1
  pl_13
  bl_13
  oz_13
  ea_13
  bs_13
  is_13
  sz_21
  ag_21
  by_21
  ze_21
  un_21
  oz_21
  ea_21
  bs_21
  is_21
  sz_28
  ag_28
  by_28
  ze_28
  fo_28_0
  fo_28_1
  fo_28_2
  fo_28_3
  pl_28
  bl_28
  oz_28
  ea_28
  bs_28
  is_28
  sz_29
  ag_29
  by_29
  ze_29
  fo_29_0
  fo_29_1
  fo_29_2
  fo_29_3
  pl_29
  bl_29
  oz_29
  ea_29
  sqeql_29
  sqneq_29
  bs_29
  is_29
  sz_38
  ag_38
  by_38
  ze_38
  fo_38_0
  fo_38_1
  pl_38
  bl_38
  oz_38
  ea_38
  bs_38
  is_38
  sz_39
  ag_39
  by_39
  ze_39
  fo_39_0
  fo_39_1
  pl_39
  bl_39
  oz_39
  ea_39
  sqeql_39
  sqneq_39
  bs_39
  is_39
  sz_42
  ag_42
  by_42
  ze_42
  fo_42_0
  fo_42_1
  pl_42
  bl_42
  oz_42
  ea_42
  bs_42
  is_42
  sz_43
  ag_43
  by_43
  ze_43
  fo_43_0
  fo_43_1
  pl_43
  bl_43
  oz_43
  ea_43
  bs_43
  is_43
  sz_50
  ag_50
  by_50
  ze_50
  fo_50_0
  fo_50_1
  fo_50_2
  pl_50
  bl_50
  oz_50
  ea_50
  bs_50
  is_50
  sz_51
  ag_51
  by_51
  ze_51
  fo_51_0
  fo_51_1
  fo_51_2
  pl_51
  bl_51
  oz_51
  ea_51
  sqeql_51
  sqneq_51
  bs_51
  is_51
  sz_54
  ag_54
  by_54
  ze_54
  fo_54_0
  fo_54_1
  fo_54_2
  fo_54_3
  fo_54_4
  pl_54
  bl_54
  oz_54
  ea_54
  bs_54
  is_54
  sz_55
  ag_55
  by_55
  ze_55
  fo_55_0
  fo_55_1
  fo_55_2
  fo_55_3
  fo_55_4
  pl_55
  bl_55
  oz_55
  ea_55
  bs_55
  is_55
  sz_81
  ag_81
  by_81
  ze_81
  fo_81_0
  fo_81_1
  fo_81_2
  fo_81_3
  pl_81
  bl_81
  oz_81
  ea_81
  bs_81
  is_81
  sz_82
  ag_82
  by_82
  ze_82
  fo_82_0
  fo_82_1
  fo_82_2
  fo_82_3
  pl_82
  bl_82
  oz_82
  ea_82
  sqeql_82
  sqneq_82
  bs_82
  is_82
  sz_101
  ag_101
  by_101
  ze_101
  fo_101_0
  fo_101_1
  fo_101_2
  pl_101
  bl_101
  oz_101
  ea_101
  sqeql_101
  sqneq_101
  bs_101
  is_101
  sz_107
  ag_107
  by_107
  ze_107
  fo_107_0
  fo_107_1
  pl_107
  bl_107
  oz_107
  ea_107
  bs_107
  is_107
  sz_108
  ag_108
  by_108
  ze_108
  fo_108_0
  fo_108_1
  pl_108
  bl_108
  oz_108
  ea_108
  bs_108
  is_108
  sz_135
  ag_135
  by_135
  ze_135
  un_135
  oz_135
  ea_135
  bs_135
  is_135
  sz_22
  ag_22
  by_22
  ze_22
  un_22
  el_22
  ix_22
  ixr_22
  sl_22
  slr_22
  sle_22
  lpl_22
  lpr_22
  lpn_22
  oz_22
  ea_22
  em_22
  eap_22
  ecp_22
  bs_22
  is_22
  sz_23
  ag_23
  by_23
  ze_23
  un_23
  el_23
  ix_23
  ixr_23
  sl_23
  slr_23
  sle_23
  lpl_23
  lpr_23
  lpn_23
  oz_23
  ea_23
  em_23
  eap_23
  ecp_23
  bs_23
  is_23
  sz_35
  ag_35
  by_35
  ze_35
  un_35
  el_35
  ix_35
  ixr_35
  sl_35
  slr_35
  sle_35
  lpl_35
  lpr_35
  lpn_35
  oz_35
  ea_35
  em_35
  eap_35
  ecp_35
  bs_35
  is_35
  sz_41
  ag_41
  by_41
  ze_41
  un_41
  el_41
  ix_41
  ixr_41
  sl_41
  slr_41
  sle_41
  lpl_41
  lpr_41
  lpn_41
  oz_41
  ea_41
  em_41
  eap_41
  ecp_41
  bs_41
  is_41
  sz_47
  ag_47
  by_47
  ze_47
  un_47
  el_47
  ix_47
  ixr_47
  sl_47
  slr_47
  sle_47
  lpl_47
  lpr_47
  lpn_47
  oz_47
  ea_47
  em_47
  eap_47
  ecp_47
  bs_47
  is_47
  sz_53
  ag_53
  by_53
  ze_53
  un_53
  el_53
  ix_53
  ixr_53
  sl_53
  slr_53
  sle_53
  lpl_53
  lpr_53
  lpn_53
  oz_53
  ea_53
  em_53
  eap_53
  ecp_53
  bs_53
  is_53
  sz_59
  ag_59
  by_59
  ze_59
  un_59
  el_59
  ix_59
  ixr_59
  sl_59
  slr_59
  sle_59
  lpl_59
  lpr_59
  lpn_59
  oz_59
  ea_59
  em_59
  eap_59
  ecp_59
  bs_59
  is_59
  sz_52
  ag_52
  by_52
  ze_52
  un_52
  el_52
  ix_52
  ixr_52
  sl_52
  slr_52
  sle_52
  lpl_52
  lpr_52
  lpn_52
  oz_52
  ea_52
  em_52
  eap_52
  ecp_52
  bs_52
  is_52
  cvi_2_2
  cvi_2_3
  cvi_2_5
  cvi_2_12
  cvi_2_21
  cvi_2_135
  cvi_3_2
  cvi_3_3
  cvi_3_5
  cvi_3_12
  cvi_3_21
  cvi_3_135
  cvi_5_2
  cvi_5_3
  cvi_5_5
  cvi_5_12
  cvi_5_21
  cvi_5_135
  cvi_12_2
  cvi_12_3
  cvi_12_5
  cvi_12_12
  cvi_12_21
  cvi_12_135
  cvi_21_2
  cvi_21_3
  cvi_21_5
  cvi_21_12
  cvi_21_21
  cvi_21_135
  cvi_135_2
  cvi_135_3
  cvi_135_5
  cvi_135_12
  cvi_135_21
  cvi_135_135
  rw_22_0
  rw_22_1
  rw_22_3
  rw_23_0
  rw_23_1
  rw_23_2
  rw_23_3
  rw_23_4
  rw_23_5
  rw_23_6
  rw_23_7
  rw_35_0
  rw_35_1
  rw_35_3
  rw_41_0
  rw_41_1
  rw_41_2
  rw_41_4
  rw_47_0
  rw_47_1
  rw_47_2
  rw_52_0
  rw_52_1
  rw_53_0
  rw_53_1
  rw_53_5
  rw_53_8
  rw_53_12
  rw_53_15
end Go.Proofs.Ytenhkmkajmnaaaa
