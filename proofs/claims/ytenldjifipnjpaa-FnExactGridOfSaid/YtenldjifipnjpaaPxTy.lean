/- Facts on the types of this seat, each reckoned by the kernel. -/
import Derived.Test.YtenldjifipnjpaaProg
import Derived.Test.YtenldjifipnjpaaPxW
namespace Go.Proofs.Ytenldjifipnjpaa
open Go.RowKit
set_option linter.all false
theorem sz_2 : tySize Try.prog 2 = some 1 := by kernel_rfl
theorem ag_2 : tyAgg Try.prog 2 = some false := by kernel_rfl
theorem by_2 : tyBytes Try.prog 2 = some 8 := by kernel_rfl
theorem ze_2 : zeroOf Try.prog 2 = some (.int .i64 0) := by kernel_rfl
theorem un_2 : Try.prog.underlying 2 = some (.int .i64) := by kernel_rfl
theorem oz_2 : ofVal (.int .i64 0) = .val (.int .i64 0) := rfl
theorem ea_2 {Γ : Ctx} (s : AS) (ρ : Operand → PV) : evEff Try.prog Γ s ρ (.alloc 2) = some (.own s.nx 1 0 0, upd s.ob s.nx (some (2, 1, [.val (.int .i64 0)])), s.nx + 1) := ea_of ze_2 (by kernel_rfl) rfl rfl s ρ
theorem bs_2 : isByteSlice Try.prog 2 = false := by kernel_rfl
theorem is_2 : isStr Try.prog 2 = false := by kernel_rfl
theorem sz_3 : tySize Try.prog 3 = some 1 := by kernel_rfl
theorem ag_3 : tyAgg Try.prog 3 = some false := by kernel_rfl
theorem by_3 : tyBytes Try.prog 3 = some 8 := by kernel_rfl
theorem ze_3 : zeroOf Try.prog 3 = some (.int .i64 0) := by kernel_rfl
theorem un_3 : Try.prog.underlying 3 = some (.int .i64) := by kernel_rfl
theorem oz_3 : ofVal (.int .i64 0) = .val (.int .i64 0) := rfl
theorem ea_3 {Γ : Ctx} (s : AS) (ρ : Operand → PV) : evEff Try.prog Γ s ρ (.alloc 3) = some (.own s.nx 1 0 0, upd s.ob s.nx (some (3, 1, [.val (.int .i64 0)])), s.nx + 1) := ea_of ze_3 (by kernel_rfl) rfl rfl s ρ
theorem bs_3 : isByteSlice Try.prog 3 = false := by kernel_rfl
theorem is_3 : isStr Try.prog 3 = false := by kernel_rfl
theorem sz_4 : tySize Try.prog 4 = some 1 := by kernel_rfl
theorem ag_4 : tyAgg Try.prog 4 = some false := by kernel_rfl
theorem by_4 : tyBytes Try.prog 4 = some 1 := by kernel_rfl
theorem ze_4 : zeroOf Try.prog 4 = some (.bool false) := by kernel_rfl
theorem un_4 : Try.prog.underlying 4 = some .bool := by kernel_rfl
theorem bqe_4 {x y : Operand} {a b : Bool} : binP Try.prog .eql 4 x y (some (.bool a)) (some (.bool b)) = some (.val (.bool (a == b))) := bp_eqlB un_4
theorem bqn_4 {x y : Operand} {a b : Bool} : binP Try.prog .neq 4 x y (some (.bool a)) (some (.bool b)) = some (.val (.bool (!(a == b)))) := bp_neqB un_4
theorem oz_4 : ofVal (.bool false) = .val (.bool false) := rfl
theorem ea_4 {Γ : Ctx} (s : AS) (ρ : Operand → PV) : evEff Try.prog Γ s ρ (.alloc 4) = some (.own s.nx 1 0 0, upd s.ob s.nx (some (4, 1, [.val (.bool false)])), s.nx + 1) := ea_of ze_4 (by kernel_rfl) rfl rfl s ρ
theorem bs_4 : isByteSlice Try.prog 4 = false := by kernel_rfl
theorem is_4 : isStr Try.prog 4 = false := by kernel_rfl
theorem sz_5 : tySize Try.prog 5 = some 1 := by kernel_rfl
theorem ag_5 : tyAgg Try.prog 5 = some false := by kernel_rfl
theorem by_5 : tyBytes Try.prog 5 = some 1 := by kernel_rfl
theorem ze_5 : zeroOf Try.prog 5 = some (.int .u8 0) := by kernel_rfl
theorem un_5 : Try.prog.underlying 5 = some (.int .u8) := by kernel_rfl
theorem oz_5 : ofVal (.int .u8 0) = .val (.int .u8 0) := rfl
theorem ea_5 {Γ : Ctx} (s : AS) (ρ : Operand → PV) : evEff Try.prog Γ s ρ (.alloc 5) = some (.own s.nx 1 0 0, upd s.ob s.nx (some (5, 1, [.val (.int .u8 0)])), s.nx + 1) := ea_of ze_5 (by kernel_rfl) rfl rfl s ρ
theorem bs_5 : isByteSlice Try.prog 5 = false := by kernel_rfl
theorem is_5 : isStr Try.prog 5 = false := by kernel_rfl
theorem sz_7 : tySize Try.prog 7 = some 4 := by kernel_rfl
theorem ag_7 : tyAgg Try.prog 7 = some true := by kernel_rfl
theorem by_7 : tyBytes Try.prog 7 = some 24 := by kernel_rfl
theorem ze_7 : zeroOf Try.prog 7 = some (.agg #[.int .i64 0, .int .i64 0, .bool false, .int .u8 0]) := by kernel_rfl
theorem fo_7_0 : fieldOff Try.prog 7 0 = some 0 := by kernel_rfl
theorem fo_7_1 : fieldOff Try.prog 7 1 = some 1 := by kernel_rfl
theorem fo_7_2 : fieldOff Try.prog 7 2 = some 2 := by kernel_rfl
theorem fo_7_3 : fieldOff Try.prog 7 3 = some 3 := by kernel_rfl
theorem pl_7 : structPlaces Try.prog 7 = some #[(0, 1), (1, 1), (2, 1), (3, 1)] := by kernel_rfl
theorem bl_7 (ps : List (Nat × PV)) : evBuild Try.prog 7 ps = (fillP (plF [(0, 1), (1, 1), (2, 1), (3, 1)]) [.val (.int .i64 0), .val (.int .i64 0), .val (.bool false), .val (.int .u8 0)] ps).map .agg := bl_of ze_7 rfl pl_7 ps
theorem oz_7 : ofVal (.agg #[.int .i64 0, .int .i64 0, .bool false, .int .u8 0]) = .agg [.val (.int .i64 0), .val (.int .i64 0), .val (.bool false), .val (.int .u8 0)] := rfl
theorem ea_7 {Γ : Ctx} (s : AS) (ρ : Operand → PV) : evEff Try.prog Γ s ρ (.alloc 7) = some (.own s.nx 4 0 0, upd s.ob s.nx (some (7, 4, [.agg [.val (.int .i64 0), .val (.int .i64 0), .val (.bool false), .val (.int .u8 0)]])), s.nx + 1) := ea_of ze_7 (by kernel_rfl) rfl rfl s ρ
theorem bz_7 {Γ : Ctx} {ob : Objs} {ρ : Operand → PV} {ty : Nat} : evVal Try.prog Γ ob ρ ty (.build 7 #[]) = some (.agg [.val (.int .i64 0), .val (.int .i64 0), .val (.bool false), .val (.int .u8 0)]) := (show evBuild Try.prog 7 [] = some (.agg [.val (.int .i64 0), .val (.int .i64 0), .val (.bool false), .val (.int .u8 0)]) from by kernel_rfl)
theorem bs_7 : isByteSlice Try.prog 7 = false := by kernel_rfl
theorem is_7 : isStr Try.prog 7 = false := by kernel_rfl
theorem sz_9 : tySize Try.prog 9 = some 1 := by kernel_rfl
theorem ag_9 : tyAgg Try.prog 9 = some false := by kernel_rfl
theorem by_9 : tyBytes Try.prog 9 = some 16 := by kernel_rfl
theorem ze_9 : zeroOf Try.prog 9 = some (.string ByteArray.empty) := by kernel_rfl
theorem un_9 : Try.prog.underlying 9 = some .string := by kernel_rfl
theorem lps_9 {ty : Nat} {s : ByteArray} : lenP Try.prog 9 ty (.val (.string s)) = some (.val (.int .i64 s.size)) := lp_str un_9
theorem ixs_9 {s : ByteArray} {i : Int} (h0 : 0 ≤ i) (h1 : i < s.size) : idxP Try.prog 9 (some (.string s)) (some (.int .i64 i)) = some (.val (.int .u8 (at8 s i.toNat))) := ix_str un_9 h0 h1
theorem oz_9 : ofVal (.string ByteArray.empty) = .val (.string ByteArray.empty) := rfl
theorem ea_9 {Γ : Ctx} (s : AS) (ρ : Operand → PV) : evEff Try.prog Γ s ρ (.alloc 9) = some (.own s.nx 1 0 0, upd s.ob s.nx (some (9, 1, [.val (.string ByteArray.empty)])), s.nx + 1) := ea_of ze_9 (by kernel_rfl) rfl rfl s ρ
theorem bs_9 : isByteSlice Try.prog 9 = false := by kernel_rfl
theorem is_9 : isStr Try.prog 9 = true := by kernel_rfl
theorem sz_12 : tySize Try.prog 12 = some 1 := by kernel_rfl
theorem ag_12 : tyAgg Try.prog 12 = some false := by kernel_rfl
theorem by_12 : tyBytes Try.prog 12 = some 8 := by kernel_rfl
theorem ze_12 : zeroOf Try.prog 12 = some (.int .u64 0) := by kernel_rfl
theorem un_12 : Try.prog.underlying 12 = some (.int .u64) := by kernel_rfl
theorem oz_12 : ofVal (.int .u64 0) = .val (.int .u64 0) := rfl
theorem ea_12 {Γ : Ctx} (s : AS) (ρ : Operand → PV) : evEff Try.prog Γ s ρ (.alloc 12) = some (.own s.nx 1 0 0, upd s.ob s.nx (some (12, 1, [.val (.int .u64 0)])), s.nx + 1) := ea_of ze_12 (by kernel_rfl) rfl rfl s ρ
theorem bs_12 : isByteSlice Try.prog 12 = false := by kernel_rfl
theorem is_12 : isStr Try.prog 12 = false := by kernel_rfl
theorem sz_13 : tySize Try.prog 13 = some 2 := by kernel_rfl
theorem ag_13 : tyAgg Try.prog 13 = some true := by kernel_rfl
theorem by_13 : tyBytes Try.prog 13 = some 24 := by kernel_rfl
theorem ze_13 : zeroOf Try.prog 13 = some (.agg #[.string ByteArray.empty, .int .u64 0]) := by kernel_rfl
theorem fo_13_0 : fieldOff Try.prog 13 0 = some 0 := by kernel_rfl
theorem fo_13_1 : fieldOff Try.prog 13 1 = some 1 := by kernel_rfl
theorem pl_13 : structPlaces Try.prog 13 = some #[(0, 1), (1, 1)] := by kernel_rfl
theorem bl_13 (ps : List (Nat × PV)) : evBuild Try.prog 13 ps = (fillP (plF [(0, 1), (1, 1)]) [.val (.string ByteArray.empty), .val (.int .u64 0)] ps).map .agg := bl_of ze_13 rfl pl_13 ps
theorem oz_13 : ofVal (.agg #[.string ByteArray.empty, .int .u64 0]) = .agg [.val (.string ByteArray.empty), .val (.int .u64 0)] := rfl
theorem ea_13 {Γ : Ctx} (s : AS) (ρ : Operand → PV) : evEff Try.prog Γ s ρ (.alloc 13) = some (.own s.nx 2 0 0, upd s.ob s.nx (some (13, 2, [.agg [.val (.string ByteArray.empty), .val (.int .u64 0)]])), s.nx + 1) := ea_of ze_13 (by kernel_rfl) rfl rfl s ρ
theorem bz_13 {Γ : Ctx} {ob : Objs} {ρ : Operand → PV} {ty : Nat} : evVal Try.prog Γ ob ρ ty (.build 13 #[]) = some (.agg [.val (.string ByteArray.empty), .val (.int .u64 0)]) := (show evBuild Try.prog 13 [] = some (.agg [.val (.string ByteArray.empty), .val (.int .u64 0)]) from by kernel_rfl)
theorem bs_13 : isByteSlice Try.prog 13 = false := by kernel_rfl
theorem is_13 : isStr Try.prog 13 = false := by kernel_rfl
theorem sz_21 : tySize Try.prog 21 = some 1 := by kernel_rfl
theorem ag_21 : tyAgg Try.prog 21 = some false := by kernel_rfl
theorem by_21 : tyBytes Try.prog 21 = some 4 := by kernel_rfl
theorem ze_21 : zeroOf Try.prog 21 = some (.int .i32 0) := by kernel_rfl
theorem un_21 : Try.prog.underlying 21 = some (.int .i32) := by kernel_rfl
theorem oz_21 : ofVal (.int .i32 0) = .val (.int .i32 0) := rfl
theorem ea_21 {Γ : Ctx} (s : AS) (ρ : Operand → PV) : evEff Try.prog Γ s ρ (.alloc 21) = some (.own s.nx 1 0 0, upd s.ob s.nx (some (21, 1, [.val (.int .i32 0)])), s.nx + 1) := ea_of ze_21 (by kernel_rfl) rfl rfl s ρ
theorem bs_21 : isByteSlice Try.prog 21 = false := by kernel_rfl
theorem is_21 : isStr Try.prog 21 = false := by kernel_rfl
theorem sz_23 : tySize Try.prog 23 = some 2 := by kernel_rfl
theorem ag_23 : tyAgg Try.prog 23 = some true := by kernel_rfl
theorem by_23 : tyBytes Try.prog 23 = some 32 := by kernel_rfl
theorem ze_23 : zeroOf Try.prog 23 = some (.agg #[.int .i64 0, .slice none 0 0]) := by kernel_rfl
theorem fo_23_0 : fieldOff Try.prog 23 0 = some 0 := by kernel_rfl
theorem fo_23_1 : fieldOff Try.prog 23 1 = some 1 := by kernel_rfl
theorem pl_23 : structPlaces Try.prog 23 = some #[(0, 1), (1, 1)] := by kernel_rfl
theorem bl_23 (ps : List (Nat × PV)) : evBuild Try.prog 23 ps = (fillP (plF [(0, 1), (1, 1)]) [.val (.int .i64 0), .val (.slice none 0 0)] ps).map .agg := bl_of ze_23 rfl pl_23 ps
theorem oz_23 : ofVal (.agg #[.int .i64 0, .slice none 0 0]) = .agg [.val (.int .i64 0), .val (.slice none 0 0)] := rfl
theorem ea_23 {Γ : Ctx} (s : AS) (ρ : Operand → PV) : evEff Try.prog Γ s ρ (.alloc 23) = some (.own s.nx 2 0 0, upd s.ob s.nx (some (23, 2, [.agg [.val (.int .i64 0), .val (.slice none 0 0)]])), s.nx + 1) := ea_of ze_23 (by kernel_rfl) rfl rfl s ρ
theorem bz_23 {Γ : Ctx} {ob : Objs} {ρ : Operand → PV} {ty : Nat} : evVal Try.prog Γ ob ρ ty (.build 23 #[]) = some (.agg [.val (.int .i64 0), .val (.slice none 0 0)]) := (show evBuild Try.prog 23 [] = some (.agg [.val (.int .i64 0), .val (.slice none 0 0)]) from by kernel_rfl)
theorem bs_23 : isByteSlice Try.prog 23 = false := by kernel_rfl
theorem is_23 : isStr Try.prog 23 = false := by kernel_rfl
theorem sz_24 : tySize Try.prog 24 = some 2 := by kernel_rfl
theorem ag_24 : tyAgg Try.prog 24 = some true := by kernel_rfl
theorem by_24 : tyBytes Try.prog 24 = some 32 := by kernel_rfl
theorem ze_24 : zeroOf Try.prog 24 = some (.agg #[.int .i64 0, .slice none 0 0]) := by kernel_rfl
theorem fo_24_0 : fieldOff Try.prog 24 0 = some 0 := by kernel_rfl
theorem fo_24_1 : fieldOff Try.prog 24 1 = some 1 := by kernel_rfl
theorem pl_24 : structPlaces Try.prog 24 = some #[(0, 1), (1, 1)] := by kernel_rfl
theorem bl_24 (ps : List (Nat × PV)) : evBuild Try.prog 24 ps = (fillP (plF [(0, 1), (1, 1)]) [.val (.int .i64 0), .val (.slice none 0 0)] ps).map .agg := bl_of ze_24 rfl pl_24 ps
theorem oz_24 : ofVal (.agg #[.int .i64 0, .slice none 0 0]) = .agg [.val (.int .i64 0), .val (.slice none 0 0)] := rfl
theorem ea_24 {Γ : Ctx} (s : AS) (ρ : Operand → PV) : evEff Try.prog Γ s ρ (.alloc 24) = some (.own s.nx 2 0 0, upd s.ob s.nx (some (24, 2, [.agg [.val (.int .i64 0), .val (.slice none 0 0)]])), s.nx + 1) := ea_of ze_24 (by kernel_rfl) rfl rfl s ρ
theorem bz_24 {Γ : Ctx} {ob : Objs} {ρ : Operand → PV} {ty : Nat} : evVal Try.prog Γ ob ρ ty (.build 24 #[]) = some (.agg [.val (.int .i64 0), .val (.slice none 0 0)]) := (show evBuild Try.prog 24 [] = some (.agg [.val (.int .i64 0), .val (.slice none 0 0)]) from by kernel_rfl)
theorem bs_24 : isByteSlice Try.prog 24 = false := by kernel_rfl
theorem is_24 : isStr Try.prog 24 = false := by kernel_rfl
theorem sz_68 : tySize Try.prog 68 = some 4 := by kernel_rfl
theorem ag_68 : tyAgg Try.prog 68 = some true := by kernel_rfl
theorem by_68 : tyBytes Try.prog 68 = some 32 := by kernel_rfl
theorem ze_68 : zeroOf Try.prog 68 = some (.agg #[.int .i64 0, .int .i64 0, .int .i64 0, .int .i64 0]) := by kernel_rfl
theorem fo_68_0 : fieldOff Try.prog 68 0 = some 0 := by kernel_rfl
theorem fo_68_1 : fieldOff Try.prog 68 1 = some 1 := by kernel_rfl
theorem fo_68_2 : fieldOff Try.prog 68 2 = some 2 := by kernel_rfl
theorem fo_68_3 : fieldOff Try.prog 68 3 = some 3 := by kernel_rfl
theorem pl_68 : structPlaces Try.prog 68 = some #[(0, 1), (1, 1), (2, 1), (3, 1)] := by kernel_rfl
theorem bl_68 (ps : List (Nat × PV)) : evBuild Try.prog 68 ps = (fillP (plF [(0, 1), (1, 1), (2, 1), (3, 1)]) [.val (.int .i64 0), .val (.int .i64 0), .val (.int .i64 0), .val (.int .i64 0)] ps).map .agg := bl_of ze_68 rfl pl_68 ps
theorem oz_68 : ofVal (.agg #[.int .i64 0, .int .i64 0, .int .i64 0, .int .i64 0]) = .agg [.val (.int .i64 0), .val (.int .i64 0), .val (.int .i64 0), .val (.int .i64 0)] := rfl
theorem ea_68 {Γ : Ctx} (s : AS) (ρ : Operand → PV) : evEff Try.prog Γ s ρ (.alloc 68) = some (.own s.nx 4 0 0, upd s.ob s.nx (some (68, 4, [.agg [.val (.int .i64 0), .val (.int .i64 0), .val (.int .i64 0), .val (.int .i64 0)]])), s.nx + 1) := ea_of ze_68 (by kernel_rfl) rfl rfl s ρ
theorem bz_68 {Γ : Ctx} {ob : Objs} {ρ : Operand → PV} {ty : Nat} : evVal Try.prog Γ ob ρ ty (.build 68 #[]) = some (.agg [.val (.int .i64 0), .val (.int .i64 0), .val (.int .i64 0), .val (.int .i64 0)]) := (show evBuild Try.prog 68 [] = some (.agg [.val (.int .i64 0), .val (.int .i64 0), .val (.int .i64 0), .val (.int .i64 0)]) from by kernel_rfl)
theorem bs_68 : isByteSlice Try.prog 68 = false := by kernel_rfl
theorem is_68 : isStr Try.prog 68 = false := by kernel_rfl
theorem sz_69 : tySize Try.prog 69 = some 4 := by kernel_rfl
theorem ag_69 : tyAgg Try.prog 69 = some true := by kernel_rfl
theorem by_69 : tyBytes Try.prog 69 = some 32 := by kernel_rfl
theorem ze_69 : zeroOf Try.prog 69 = some (.agg #[.int .i64 0, .int .i64 0, .int .i64 0, .int .i64 0]) := by kernel_rfl
theorem fo_69_0 : fieldOff Try.prog 69 0 = some 0 := by kernel_rfl
theorem fo_69_1 : fieldOff Try.prog 69 1 = some 1 := by kernel_rfl
theorem fo_69_2 : fieldOff Try.prog 69 2 = some 2 := by kernel_rfl
theorem fo_69_3 : fieldOff Try.prog 69 3 = some 3 := by kernel_rfl
theorem pl_69 : structPlaces Try.prog 69 = some #[(0, 1), (1, 1), (2, 1), (3, 1)] := by kernel_rfl
theorem bl_69 (ps : List (Nat × PV)) : evBuild Try.prog 69 ps = (fillP (plF [(0, 1), (1, 1), (2, 1), (3, 1)]) [.val (.int .i64 0), .val (.int .i64 0), .val (.int .i64 0), .val (.int .i64 0)] ps).map .agg := bl_of ze_69 rfl pl_69 ps
theorem oz_69 : ofVal (.agg #[.int .i64 0, .int .i64 0, .int .i64 0, .int .i64 0]) = .agg [.val (.int .i64 0), .val (.int .i64 0), .val (.int .i64 0), .val (.int .i64 0)] := rfl
theorem ea_69 {Γ : Ctx} (s : AS) (ρ : Operand → PV) : evEff Try.prog Γ s ρ (.alloc 69) = some (.own s.nx 4 0 0, upd s.ob s.nx (some (69, 4, [.agg [.val (.int .i64 0), .val (.int .i64 0), .val (.int .i64 0), .val (.int .i64 0)]])), s.nx + 1) := ea_of ze_69 (by kernel_rfl) rfl rfl s ρ
theorem bz_69 {Γ : Ctx} {ob : Objs} {ρ : Operand → PV} {ty : Nat} : evVal Try.prog Γ ob ρ ty (.build 69 #[]) = some (.agg [.val (.int .i64 0), .val (.int .i64 0), .val (.int .i64 0), .val (.int .i64 0)]) := (show evBuild Try.prog 69 [] = some (.agg [.val (.int .i64 0), .val (.int .i64 0), .val (.int .i64 0), .val (.int .i64 0)]) from by kernel_rfl)
theorem fd_69 : Try.prog.underlying 69 = some (.struct (Go.Program.fieldsOf Try.prog 69)) := by kernel_rfl
theorem ef_69 {a0 b0 : Int} {a1 b1 : Int} {a2 b2 : Int} {a3 b3 : Int} : eqFl Try.prog [.int .i64 a0, .int .i64 a1, .int .i64 a2, .int .i64 a3] [.int .i64 b0, .int .i64 b1, .int .i64 b2, .int .i64 b3] (Go.Program.fieldsOf Try.prog 69).toList = some ((a0 == b0) && ((a1 == b1) && ((a2 == b2) && ((a3 == b3) && true)))) := by kernel_rfl
theorem sqeql_69 {x y : Operand} {a0 b0 : Int} {a1 b1 : Int} {a2 b2 : Int} {a3 b3 : Int} : binP Try.prog .eql 69 x y (some (.agg #[.int .i64 a0, .int .i64 a1, .int .i64 a2, .int .i64 a3])) (some (.agg #[.int .i64 b0, .int .i64 b1, .int .i64 b2, .int .i64 b3])) = some (.val (.bool ((a0 == b0) && ((a1 == b1) && ((a2 == b2) && ((a3 == b3) && true)))))) := bp_eqlA fd_69 (by kernel_rfl) (by kernel_rfl) ef_69
theorem sqneq_69 {x y : Operand} {a0 b0 : Int} {a1 b1 : Int} {a2 b2 : Int} {a3 b3 : Int} : binP Try.prog .neq 69 x y (some (.agg #[.int .i64 a0, .int .i64 a1, .int .i64 a2, .int .i64 a3])) (some (.agg #[.int .i64 b0, .int .i64 b1, .int .i64 b2, .int .i64 b3])) = some (.val (.bool (!((a0 == b0) && ((a1 == b1) && ((a2 == b2) && ((a3 == b3) && true))))))) := bp_neqA fd_69 (by kernel_rfl) (by kernel_rfl) ef_69
theorem bs_69 : isByteSlice Try.prog 69 = false := by kernel_rfl
theorem is_69 : isStr Try.prog 69 = false := by kernel_rfl
theorem sz_70 : tySize Try.prog 70 = some 1 := by kernel_rfl
theorem ag_70 : tyAgg Try.prog 70 = some false := by kernel_rfl
theorem by_70 : tyBytes Try.prog 70 = some 8 := by kernel_rfl
theorem ze_70 : zeroOf Try.prog 70 = some (.int .u64 0) := by kernel_rfl
theorem un_70 : Try.prog.underlying 70 = some (.int .u64) := by kernel_rfl
theorem oz_70 : ofVal (.int .u64 0) = .val (.int .u64 0) := rfl
theorem ea_70 {Γ : Ctx} (s : AS) (ρ : Operand → PV) : evEff Try.prog Γ s ρ (.alloc 70) = some (.own s.nx 1 0 0, upd s.ob s.nx (some (70, 1, [.val (.int .u64 0)])), s.nx + 1) := ea_of ze_70 (by kernel_rfl) rfl rfl s ρ
theorem bs_70 : isByteSlice Try.prog 70 = false := by kernel_rfl
theorem is_70 : isStr Try.prog 70 = false := by kernel_rfl
theorem sz_79 : tySize Try.prog 79 = some 2 := by kernel_rfl
theorem ag_79 : tyAgg Try.prog 79 = some true := by kernel_rfl
theorem by_79 : tyBytes Try.prog 79 = some 32 := by kernel_rfl
theorem ze_79 : zeroOf Try.prog 79 = some (.agg #[.slice none 0 0, .int .i64 0]) := by kernel_rfl
theorem fo_79_0 : fieldOff Try.prog 79 0 = some 0 := by kernel_rfl
theorem fo_79_1 : fieldOff Try.prog 79 1 = some 1 := by kernel_rfl
theorem pl_79 : structPlaces Try.prog 79 = some #[(0, 1), (1, 1)] := by kernel_rfl
theorem bl_79 (ps : List (Nat × PV)) : evBuild Try.prog 79 ps = (fillP (plF [(0, 1), (1, 1)]) [.val (.slice none 0 0), .val (.int .i64 0)] ps).map .agg := bl_of ze_79 rfl pl_79 ps
theorem oz_79 : ofVal (.agg #[.slice none 0 0, .int .i64 0]) = .agg [.val (.slice none 0 0), .val (.int .i64 0)] := rfl
theorem ea_79 {Γ : Ctx} (s : AS) (ρ : Operand → PV) : evEff Try.prog Γ s ρ (.alloc 79) = some (.own s.nx 2 0 0, upd s.ob s.nx (some (79, 2, [.agg [.val (.slice none 0 0), .val (.int .i64 0)]])), s.nx + 1) := ea_of ze_79 (by kernel_rfl) rfl rfl s ρ
theorem bz_79 {Γ : Ctx} {ob : Objs} {ρ : Operand → PV} {ty : Nat} : evVal Try.prog Γ ob ρ ty (.build 79 #[]) = some (.agg [.val (.slice none 0 0), .val (.int .i64 0)]) := (show evBuild Try.prog 79 [] = some (.agg [.val (.slice none 0 0), .val (.int .i64 0)]) from by kernel_rfl)
theorem bs_79 : isByteSlice Try.prog 79 = false := by kernel_rfl
theorem is_79 : isStr Try.prog 79 = false := by kernel_rfl
theorem sz_80 : tySize Try.prog 80 = some 2 := by kernel_rfl
theorem ag_80 : tyAgg Try.prog 80 = some true := by kernel_rfl
theorem by_80 : tyBytes Try.prog 80 = some 32 := by kernel_rfl
theorem ze_80 : zeroOf Try.prog 80 = some (.agg #[.slice none 0 0, .int .i64 0]) := by kernel_rfl
theorem fo_80_0 : fieldOff Try.prog 80 0 = some 0 := by kernel_rfl
theorem fo_80_1 : fieldOff Try.prog 80 1 = some 1 := by kernel_rfl
theorem pl_80 : structPlaces Try.prog 80 = some #[(0, 1), (1, 1)] := by kernel_rfl
theorem bl_80 (ps : List (Nat × PV)) : evBuild Try.prog 80 ps = (fillP (plF [(0, 1), (1, 1)]) [.val (.slice none 0 0), .val (.int .i64 0)] ps).map .agg := bl_of ze_80 rfl pl_80 ps
theorem oz_80 : ofVal (.agg #[.slice none 0 0, .int .i64 0]) = .agg [.val (.slice none 0 0), .val (.int .i64 0)] := rfl
theorem ea_80 {Γ : Ctx} (s : AS) (ρ : Operand → PV) : evEff Try.prog Γ s ρ (.alloc 80) = some (.own s.nx 2 0 0, upd s.ob s.nx (some (80, 2, [.agg [.val (.slice none 0 0), .val (.int .i64 0)]])), s.nx + 1) := ea_of ze_80 (by kernel_rfl) rfl rfl s ρ
theorem bz_80 {Γ : Ctx} {ob : Objs} {ρ : Operand → PV} {ty : Nat} : evVal Try.prog Γ ob ρ ty (.build 80 #[]) = some (.agg [.val (.slice none 0 0), .val (.int .i64 0)]) := (show evBuild Try.prog 80 [] = some (.agg [.val (.slice none 0 0), .val (.int .i64 0)]) from by kernel_rfl)
theorem bs_80 : isByteSlice Try.prog 80 = false := by kernel_rfl
theorem is_80 : isStr Try.prog 80 = false := by kernel_rfl
theorem sz_82 : tySize Try.prog 82 = some 1 := by kernel_rfl
theorem ag_82 : tyAgg Try.prog 82 = some false := by kernel_rfl
theorem by_82 : tyBytes Try.prog 82 = some 4 := by kernel_rfl
theorem ze_82 : zeroOf Try.prog 82 = some (.int .u32 0) := by kernel_rfl
theorem un_82 : Try.prog.underlying 82 = some (.int .u32) := by kernel_rfl
theorem oz_82 : ofVal (.int .u32 0) = .val (.int .u32 0) := rfl
theorem ea_82 {Γ : Ctx} (s : AS) (ρ : Operand → PV) : evEff Try.prog Γ s ρ (.alloc 82) = some (.own s.nx 1 0 0, upd s.ob s.nx (some (82, 1, [.val (.int .u32 0)])), s.nx + 1) := ea_of ze_82 (by kernel_rfl) rfl rfl s ρ
theorem bs_82 : isByteSlice Try.prog 82 = false := by kernel_rfl
theorem is_82 : isStr Try.prog 82 = false := by kernel_rfl
theorem sz_85 : tySize Try.prog 85 = some 1 := by kernel_rfl
theorem ag_85 : tyAgg Try.prog 85 = some false := by kernel_rfl
theorem by_85 : tyBytes Try.prog 85 = some 8 := by kernel_rfl
theorem ze_85 : zeroOf Try.prog 85 = some (.int .u64 0) := by kernel_rfl
theorem un_85 : Try.prog.underlying 85 = some (.int .u64) := by kernel_rfl
theorem oz_85 : ofVal (.int .u64 0) = .val (.int .u64 0) := rfl
theorem ea_85 {Γ : Ctx} (s : AS) (ρ : Operand → PV) : evEff Try.prog Γ s ρ (.alloc 85) = some (.own s.nx 1 0 0, upd s.ob s.nx (some (85, 1, [.val (.int .u64 0)])), s.nx + 1) := ea_of ze_85 (by kernel_rfl) rfl rfl s ρ
theorem bs_85 : isByteSlice Try.prog 85 = false := by kernel_rfl
theorem is_85 : isStr Try.prog 85 = false := by kernel_rfl
theorem sz_22 : tySize Try.prog 22 = some 1 := by kernel_rfl
theorem ag_22 : tyAgg Try.prog 22 = some false := by kernel_rfl
theorem by_22 : tyBytes Try.prog 22 = some 24 := by kernel_rfl
theorem ze_22 : zeroOf Try.prog 22 = some (.slice none 0 0) := by kernel_rfl
theorem un_22 : Try.prog.underlying 22 = some (.slice 5) := by kernel_rfl
theorem el_22 : tyElem Try.prog 22 = some 5 := by kernel_rfl
theorem ix_22 {k : Bool} {es : List PV} {i : Int} (h0 : 0 ≤ i) (h1 : i < (es.length : Int)) : evIndexAddr Try.prog 22 (.lst k 1 es) i = some (.ptr k ((es[i.toNat]?).getD .dead) 0) := ix_lst un_22 sz_5 h0 h1
theorem ixr_22 {o j n : Nat} {i : Int} (h0 : 0 ≤ i) (h1 : i < (n : Int)) : evIndexAddr Try.prog 22 (.row o 1 j n) i = some (.own o 1 (j + i.toNat) 0) := ix_row un_22 sz_5 h0 h1
theorem sl_22 {k : Bool} {es : List PV} {lo hi : Option Int} (h0 : 0 ≤ lo.getD 0) (h1 : lo.getD 0 ≤ hi.getD es.length) (h2 : hi.getD es.length ≤ es.length) : evSlice Try.prog 22 (.lst k 1 es) lo hi = some (.lst k 1 ((es.drop (lo.getD 0).toNat).take ((hi.getD es.length).toNat - (lo.getD 0).toNat))) := sl_lst un_22 sz_5 h0 h1 h2
theorem slr_22 {o i n : Nat} {lo hi : Option Int} (h0 : 0 ≤ lo.getD 0) (h1 : lo.getD 0 < hi.getD n) (h2 : hi.getD n ≤ n) : evSlice Try.prog 22 (.row o 1 i n) lo hi = some (.row o 1 (i + (lo.getD 0).toNat) ((hi.getD n).toNat - (lo.getD 0).toNat)) := sl_rowlt un_22 sz_5 h0 h1 h2
theorem sle_22 {o i n : Nat} {lo hi : Option Int} (h0 : 0 ≤ lo.getD 0) (h1 : lo.getD 0 = hi.getD n) (h2 : hi.getD n ≤ n) : evSlice Try.prog 22 (.row o 1 i n) lo hi = some (.lst true 1 []) := sl_roweq un_22 sz_5 h0 h1 h2
theorem lpl_22 {ty sz : Nat} {k : Bool} {es : List PV} : lenP Try.prog 22 ty (.lst k sz es) = some (.val (.int .i64 es.length)) := lp_lst el_22
theorem lpr_22 {ty o sz i n : Nat} : lenP Try.prog 22 ty (.row o sz i n) = some (.val (.int .i64 n)) := lp_row el_22
theorem lpn_22 {ty : Nat} : lenP Try.prog 22 ty (.val (.slice none 0 0)) = some (.val (.int .i64 0)) := lp_nil un_22
theorem oz_22 : ofVal (.slice none 0 0) = .val (.slice none 0 0) := rfl
theorem ea_22 {Γ : Ctx} (s : AS) (ρ : Operand → PV) : evEff Try.prog Γ s ρ (.alloc 22) = some (.own s.nx 1 0 0, upd s.ob s.nx (some (22, 1, [.val (.slice none 0 0)])), s.nx + 1) := ea_of ze_22 (by kernel_rfl) rfl rfl s ρ
theorem em_22 {Γ : Ctx} (s : AS) (ρ : Operand → PV) (l c : Operand) : evEff Try.prog Γ s ρ (.makeSlice 22 l c) = mkEv 5 1 1 (.int .u8 0) s (ρ l) (ρ c) := em_of el_22 ze_5 sz_5 by_5 (by kernel_rfl) rfl s ρ l c
theorem eap_22 {Γ : Ctx} (s : AS) (ρ : Operand → PV) (x y : Operand) : evEff Try.prog Γ s ρ (.call { callee := .builtin .append, args := #[x, y], argTypes := #[22, 22] }) = apEv 5 1 1 s.nx s.ob (ρ x) (obOf s.ob (ρ x)) (sliceEs s.ob 1 (ρ y)) := eap_of el_22 ze_5 sz_5 by_5 (by decide) rfl s ρ x y
theorem ecp_22 {Γ : Ctx} (s : AS) (ρ : Operand → PV) (x y : Operand) (t' : Nat) : evEff Try.prog Γ s ρ (.call { callee := .builtin .copy, args := #[x, y], argTypes := #[22, t'] }) = cpX 1 s.nx s.ob (ρ x) (obOf s.ob (ρ x)) (srcEs s.ob 1 (ρ y)) := ecp_of el_22 sz_5 s ρ x y t'
theorem bs_22 : isByteSlice Try.prog 22 = true := by kernel_rfl
theorem is_22 : isStr Try.prog 22 = false := by kernel_rfl
theorem sz_29 : tySize Try.prog 29 = some 1 := by kernel_rfl
theorem ag_29 : tyAgg Try.prog 29 = some false := by kernel_rfl
theorem by_29 : tyBytes Try.prog 29 = some 24 := by kernel_rfl
theorem ze_29 : zeroOf Try.prog 29 = some (.slice none 0 0) := by kernel_rfl
theorem un_29 : Try.prog.underlying 29 = some (.slice 9) := by kernel_rfl
theorem el_29 : tyElem Try.prog 29 = some 9 := by kernel_rfl
theorem ix_29 {k : Bool} {es : List PV} {i : Int} (h0 : 0 ≤ i) (h1 : i < (es.length : Int)) : evIndexAddr Try.prog 29 (.lst k 1 es) i = some (.ptr k ((es[i.toNat]?).getD .dead) 0) := ix_lst un_29 sz_9 h0 h1
theorem ixr_29 {o j n : Nat} {i : Int} (h0 : 0 ≤ i) (h1 : i < (n : Int)) : evIndexAddr Try.prog 29 (.row o 1 j n) i = some (.own o 1 (j + i.toNat) 0) := ix_row un_29 sz_9 h0 h1
theorem sl_29 {k : Bool} {es : List PV} {lo hi : Option Int} (h0 : 0 ≤ lo.getD 0) (h1 : lo.getD 0 ≤ hi.getD es.length) (h2 : hi.getD es.length ≤ es.length) : evSlice Try.prog 29 (.lst k 1 es) lo hi = some (.lst k 1 ((es.drop (lo.getD 0).toNat).take ((hi.getD es.length).toNat - (lo.getD 0).toNat))) := sl_lst un_29 sz_9 h0 h1 h2
theorem slr_29 {o i n : Nat} {lo hi : Option Int} (h0 : 0 ≤ lo.getD 0) (h1 : lo.getD 0 < hi.getD n) (h2 : hi.getD n ≤ n) : evSlice Try.prog 29 (.row o 1 i n) lo hi = some (.row o 1 (i + (lo.getD 0).toNat) ((hi.getD n).toNat - (lo.getD 0).toNat)) := sl_rowlt un_29 sz_9 h0 h1 h2
theorem sle_29 {o i n : Nat} {lo hi : Option Int} (h0 : 0 ≤ lo.getD 0) (h1 : lo.getD 0 = hi.getD n) (h2 : hi.getD n ≤ n) : evSlice Try.prog 29 (.row o 1 i n) lo hi = some (.lst true 1 []) := sl_roweq un_29 sz_9 h0 h1 h2
theorem lpl_29 {ty sz : Nat} {k : Bool} {es : List PV} : lenP Try.prog 29 ty (.lst k sz es) = some (.val (.int .i64 es.length)) := lp_lst el_29
theorem lpr_29 {ty o sz i n : Nat} : lenP Try.prog 29 ty (.row o sz i n) = some (.val (.int .i64 n)) := lp_row el_29
theorem lpn_29 {ty : Nat} : lenP Try.prog 29 ty (.val (.slice none 0 0)) = some (.val (.int .i64 0)) := lp_nil un_29
theorem oz_29 : ofVal (.slice none 0 0) = .val (.slice none 0 0) := rfl
theorem ea_29 {Γ : Ctx} (s : AS) (ρ : Operand → PV) : evEff Try.prog Γ s ρ (.alloc 29) = some (.own s.nx 1 0 0, upd s.ob s.nx (some (29, 1, [.val (.slice none 0 0)])), s.nx + 1) := ea_of ze_29 (by kernel_rfl) rfl rfl s ρ
theorem em_29 {Γ : Ctx} (s : AS) (ρ : Operand → PV) (l c : Operand) : evEff Try.prog Γ s ρ (.makeSlice 29 l c) = mkEv 9 1 16 (.string ByteArray.empty) s (ρ l) (ρ c) := em_of el_29 ze_9 sz_9 by_9 (by kernel_rfl) rfl s ρ l c
theorem eap_29 {Γ : Ctx} (s : AS) (ρ : Operand → PV) (x y : Operand) : evEff Try.prog Γ s ρ (.call { callee := .builtin .append, args := #[x, y], argTypes := #[29, 29] }) = apEv 9 1 16 s.nx s.ob (ρ x) (obOf s.ob (ρ x)) (sliceEs s.ob 1 (ρ y)) := eap_of el_29 ze_9 sz_9 by_9 (by decide) rfl s ρ x y
theorem ecp_29 {Γ : Ctx} (s : AS) (ρ : Operand → PV) (x y : Operand) (t' : Nat) : evEff Try.prog Γ s ρ (.call { callee := .builtin .copy, args := #[x, y], argTypes := #[29, t'] }) = cpX 1 s.nx s.ob (ρ x) (obOf s.ob (ρ x)) (srcEs s.ob 1 (ρ y)) := ecp_of el_29 sz_9 s ρ x y t'
theorem bs_29 : isByteSlice Try.prog 29 = false := by kernel_rfl
theorem is_29 : isStr Try.prog 29 = false := by kernel_rfl
theorem sz_47 : tySize Try.prog 47 = some 1 := by kernel_rfl
theorem ag_47 : tyAgg Try.prog 47 = some false := by kernel_rfl
theorem by_47 : tyBytes Try.prog 47 = some 24 := by kernel_rfl
theorem ze_47 : zeroOf Try.prog 47 = some (.slice none 0 0) := by kernel_rfl
theorem un_47 : Try.prog.underlying 47 = some (.slice 3) := by kernel_rfl
theorem el_47 : tyElem Try.prog 47 = some 3 := by kernel_rfl
theorem ix_47 {k : Bool} {es : List PV} {i : Int} (h0 : 0 ≤ i) (h1 : i < (es.length : Int)) : evIndexAddr Try.prog 47 (.lst k 1 es) i = some (.ptr k ((es[i.toNat]?).getD .dead) 0) := ix_lst un_47 sz_3 h0 h1
theorem ixr_47 {o j n : Nat} {i : Int} (h0 : 0 ≤ i) (h1 : i < (n : Int)) : evIndexAddr Try.prog 47 (.row o 1 j n) i = some (.own o 1 (j + i.toNat) 0) := ix_row un_47 sz_3 h0 h1
theorem sl_47 {k : Bool} {es : List PV} {lo hi : Option Int} (h0 : 0 ≤ lo.getD 0) (h1 : lo.getD 0 ≤ hi.getD es.length) (h2 : hi.getD es.length ≤ es.length) : evSlice Try.prog 47 (.lst k 1 es) lo hi = some (.lst k 1 ((es.drop (lo.getD 0).toNat).take ((hi.getD es.length).toNat - (lo.getD 0).toNat))) := sl_lst un_47 sz_3 h0 h1 h2
theorem slr_47 {o i n : Nat} {lo hi : Option Int} (h0 : 0 ≤ lo.getD 0) (h1 : lo.getD 0 < hi.getD n) (h2 : hi.getD n ≤ n) : evSlice Try.prog 47 (.row o 1 i n) lo hi = some (.row o 1 (i + (lo.getD 0).toNat) ((hi.getD n).toNat - (lo.getD 0).toNat)) := sl_rowlt un_47 sz_3 h0 h1 h2
theorem sle_47 {o i n : Nat} {lo hi : Option Int} (h0 : 0 ≤ lo.getD 0) (h1 : lo.getD 0 = hi.getD n) (h2 : hi.getD n ≤ n) : evSlice Try.prog 47 (.row o 1 i n) lo hi = some (.lst true 1 []) := sl_roweq un_47 sz_3 h0 h1 h2
theorem lpl_47 {ty sz : Nat} {k : Bool} {es : List PV} : lenP Try.prog 47 ty (.lst k sz es) = some (.val (.int .i64 es.length)) := lp_lst el_47
theorem lpr_47 {ty o sz i n : Nat} : lenP Try.prog 47 ty (.row o sz i n) = some (.val (.int .i64 n)) := lp_row el_47
theorem lpn_47 {ty : Nat} : lenP Try.prog 47 ty (.val (.slice none 0 0)) = some (.val (.int .i64 0)) := lp_nil un_47
theorem oz_47 : ofVal (.slice none 0 0) = .val (.slice none 0 0) := rfl
theorem ea_47 {Γ : Ctx} (s : AS) (ρ : Operand → PV) : evEff Try.prog Γ s ρ (.alloc 47) = some (.own s.nx 1 0 0, upd s.ob s.nx (some (47, 1, [.val (.slice none 0 0)])), s.nx + 1) := ea_of ze_47 (by kernel_rfl) rfl rfl s ρ
theorem em_47 {Γ : Ctx} (s : AS) (ρ : Operand → PV) (l c : Operand) : evEff Try.prog Γ s ρ (.makeSlice 47 l c) = mkEv 3 1 8 (.int .i64 0) s (ρ l) (ρ c) := em_of el_47 ze_3 sz_3 by_3 (by kernel_rfl) rfl s ρ l c
theorem eap_47 {Γ : Ctx} (s : AS) (ρ : Operand → PV) (x y : Operand) : evEff Try.prog Γ s ρ (.call { callee := .builtin .append, args := #[x, y], argTypes := #[47, 47] }) = apEv 3 1 8 s.nx s.ob (ρ x) (obOf s.ob (ρ x)) (sliceEs s.ob 1 (ρ y)) := eap_of el_47 ze_3 sz_3 by_3 (by decide) rfl s ρ x y
theorem ecp_47 {Γ : Ctx} (s : AS) (ρ : Operand → PV) (x y : Operand) (t' : Nat) : evEff Try.prog Γ s ρ (.call { callee := .builtin .copy, args := #[x, y], argTypes := #[47, t'] }) = cpX 1 s.nx s.ob (ρ x) (obOf s.ob (ρ x)) (srcEs s.ob 1 (ρ y)) := ecp_of el_47 sz_3 s ρ x y t'
theorem bs_47 : isByteSlice Try.prog 47 = false := by kernel_rfl
theorem is_47 : isStr Try.prog 47 = false := by kernel_rfl
theorem cvi_2_2 {k : IntKind} {n : Int} {es : Option (List PV)} : convP Try.prog 2 2 false es (some (.int k n)) = some (.val (.int .i64 (IntKind.i64.wrap n))) := cv_int un_2 un_2
theorem cvi_2_3 {k : IntKind} {n : Int} {es : Option (List PV)} : convP Try.prog 2 3 false es (some (.int k n)) = some (.val (.int .i64 (IntKind.i64.wrap n))) := cv_int un_2 un_3
theorem cvi_2_5 {k : IntKind} {n : Int} {es : Option (List PV)} : convP Try.prog 2 5 false es (some (.int k n)) = some (.val (.int .u8 (IntKind.u8.wrap n))) := cv_int un_2 un_5
theorem cvi_2_12 {k : IntKind} {n : Int} {es : Option (List PV)} : convP Try.prog 2 12 false es (some (.int k n)) = some (.val (.int .u64 (IntKind.u64.wrap n))) := cv_int un_2 un_12
theorem cvi_2_21 {k : IntKind} {n : Int} {es : Option (List PV)} : convP Try.prog 2 21 false es (some (.int k n)) = some (.val (.int .i32 (IntKind.i32.wrap n))) := cv_int un_2 un_21
theorem cvi_2_70 {k : IntKind} {n : Int} {es : Option (List PV)} : convP Try.prog 2 70 false es (some (.int k n)) = some (.val (.int .u64 (IntKind.u64.wrap n))) := cv_int un_2 un_70
theorem cvi_2_82 {k : IntKind} {n : Int} {es : Option (List PV)} : convP Try.prog 2 82 false es (some (.int k n)) = some (.val (.int .u32 (IntKind.u32.wrap n))) := cv_int un_2 un_82
theorem cvi_2_85 {k : IntKind} {n : Int} {es : Option (List PV)} : convP Try.prog 2 85 false es (some (.int k n)) = some (.val (.int .u64 (IntKind.u64.wrap n))) := cv_int un_2 un_85
theorem cvi_3_2 {k : IntKind} {n : Int} {es : Option (List PV)} : convP Try.prog 3 2 false es (some (.int k n)) = some (.val (.int .i64 (IntKind.i64.wrap n))) := cv_int un_3 un_2
theorem cvi_3_3 {k : IntKind} {n : Int} {es : Option (List PV)} : convP Try.prog 3 3 false es (some (.int k n)) = some (.val (.int .i64 (IntKind.i64.wrap n))) := cv_int un_3 un_3
theorem cvi_3_5 {k : IntKind} {n : Int} {es : Option (List PV)} : convP Try.prog 3 5 false es (some (.int k n)) = some (.val (.int .u8 (IntKind.u8.wrap n))) := cv_int un_3 un_5
theorem cvi_3_12 {k : IntKind} {n : Int} {es : Option (List PV)} : convP Try.prog 3 12 false es (some (.int k n)) = some (.val (.int .u64 (IntKind.u64.wrap n))) := cv_int un_3 un_12
theorem cvi_3_21 {k : IntKind} {n : Int} {es : Option (List PV)} : convP Try.prog 3 21 false es (some (.int k n)) = some (.val (.int .i32 (IntKind.i32.wrap n))) := cv_int un_3 un_21
theorem cvi_3_70 {k : IntKind} {n : Int} {es : Option (List PV)} : convP Try.prog 3 70 false es (some (.int k n)) = some (.val (.int .u64 (IntKind.u64.wrap n))) := cv_int un_3 un_70
theorem cvi_3_82 {k : IntKind} {n : Int} {es : Option (List PV)} : convP Try.prog 3 82 false es (some (.int k n)) = some (.val (.int .u32 (IntKind.u32.wrap n))) := cv_int un_3 un_82
theorem cvi_3_85 {k : IntKind} {n : Int} {es : Option (List PV)} : convP Try.prog 3 85 false es (some (.int k n)) = some (.val (.int .u64 (IntKind.u64.wrap n))) := cv_int un_3 un_85
theorem cvi_5_2 {k : IntKind} {n : Int} {es : Option (List PV)} : convP Try.prog 5 2 false es (some (.int k n)) = some (.val (.int .i64 (IntKind.i64.wrap n))) := cv_int un_5 un_2
theorem cvi_5_3 {k : IntKind} {n : Int} {es : Option (List PV)} : convP Try.prog 5 3 false es (some (.int k n)) = some (.val (.int .i64 (IntKind.i64.wrap n))) := cv_int un_5 un_3
theorem cvi_5_5 {k : IntKind} {n : Int} {es : Option (List PV)} : convP Try.prog 5 5 false es (some (.int k n)) = some (.val (.int .u8 (IntKind.u8.wrap n))) := cv_int un_5 un_5
theorem cvi_5_12 {k : IntKind} {n : Int} {es : Option (List PV)} : convP Try.prog 5 12 false es (some (.int k n)) = some (.val (.int .u64 (IntKind.u64.wrap n))) := cv_int un_5 un_12
theorem cvi_5_21 {k : IntKind} {n : Int} {es : Option (List PV)} : convP Try.prog 5 21 false es (some (.int k n)) = some (.val (.int .i32 (IntKind.i32.wrap n))) := cv_int un_5 un_21
theorem cvi_5_70 {k : IntKind} {n : Int} {es : Option (List PV)} : convP Try.prog 5 70 false es (some (.int k n)) = some (.val (.int .u64 (IntKind.u64.wrap n))) := cv_int un_5 un_70
theorem cvi_5_82 {k : IntKind} {n : Int} {es : Option (List PV)} : convP Try.prog 5 82 false es (some (.int k n)) = some (.val (.int .u32 (IntKind.u32.wrap n))) := cv_int un_5 un_82
theorem cvi_5_85 {k : IntKind} {n : Int} {es : Option (List PV)} : convP Try.prog 5 85 false es (some (.int k n)) = some (.val (.int .u64 (IntKind.u64.wrap n))) := cv_int un_5 un_85
theorem cvi_12_2 {k : IntKind} {n : Int} {es : Option (List PV)} : convP Try.prog 12 2 false es (some (.int k n)) = some (.val (.int .i64 (IntKind.i64.wrap n))) := cv_int un_12 un_2
theorem cvi_12_3 {k : IntKind} {n : Int} {es : Option (List PV)} : convP Try.prog 12 3 false es (some (.int k n)) = some (.val (.int .i64 (IntKind.i64.wrap n))) := cv_int un_12 un_3
theorem cvi_12_5 {k : IntKind} {n : Int} {es : Option (List PV)} : convP Try.prog 12 5 false es (some (.int k n)) = some (.val (.int .u8 (IntKind.u8.wrap n))) := cv_int un_12 un_5
theorem cvi_12_12 {k : IntKind} {n : Int} {es : Option (List PV)} : convP Try.prog 12 12 false es (some (.int k n)) = some (.val (.int .u64 (IntKind.u64.wrap n))) := cv_int un_12 un_12
theorem cvi_12_21 {k : IntKind} {n : Int} {es : Option (List PV)} : convP Try.prog 12 21 false es (some (.int k n)) = some (.val (.int .i32 (IntKind.i32.wrap n))) := cv_int un_12 un_21
theorem cvi_12_70 {k : IntKind} {n : Int} {es : Option (List PV)} : convP Try.prog 12 70 false es (some (.int k n)) = some (.val (.int .u64 (IntKind.u64.wrap n))) := cv_int un_12 un_70
theorem cvi_12_82 {k : IntKind} {n : Int} {es : Option (List PV)} : convP Try.prog 12 82 false es (some (.int k n)) = some (.val (.int .u32 (IntKind.u32.wrap n))) := cv_int un_12 un_82
theorem cvi_12_85 {k : IntKind} {n : Int} {es : Option (List PV)} : convP Try.prog 12 85 false es (some (.int k n)) = some (.val (.int .u64 (IntKind.u64.wrap n))) := cv_int un_12 un_85
theorem cvi_21_2 {k : IntKind} {n : Int} {es : Option (List PV)} : convP Try.prog 21 2 false es (some (.int k n)) = some (.val (.int .i64 (IntKind.i64.wrap n))) := cv_int un_21 un_2
theorem cvi_21_3 {k : IntKind} {n : Int} {es : Option (List PV)} : convP Try.prog 21 3 false es (some (.int k n)) = some (.val (.int .i64 (IntKind.i64.wrap n))) := cv_int un_21 un_3
theorem cvi_21_5 {k : IntKind} {n : Int} {es : Option (List PV)} : convP Try.prog 21 5 false es (some (.int k n)) = some (.val (.int .u8 (IntKind.u8.wrap n))) := cv_int un_21 un_5
theorem cvi_21_12 {k : IntKind} {n : Int} {es : Option (List PV)} : convP Try.prog 21 12 false es (some (.int k n)) = some (.val (.int .u64 (IntKind.u64.wrap n))) := cv_int un_21 un_12
theorem cvi_21_21 {k : IntKind} {n : Int} {es : Option (List PV)} : convP Try.prog 21 21 false es (some (.int k n)) = some (.val (.int .i32 (IntKind.i32.wrap n))) := cv_int un_21 un_21
theorem cvi_21_70 {k : IntKind} {n : Int} {es : Option (List PV)} : convP Try.prog 21 70 false es (some (.int k n)) = some (.val (.int .u64 (IntKind.u64.wrap n))) := cv_int un_21 un_70
theorem cvi_21_82 {k : IntKind} {n : Int} {es : Option (List PV)} : convP Try.prog 21 82 false es (some (.int k n)) = some (.val (.int .u32 (IntKind.u32.wrap n))) := cv_int un_21 un_82
theorem cvi_21_85 {k : IntKind} {n : Int} {es : Option (List PV)} : convP Try.prog 21 85 false es (some (.int k n)) = some (.val (.int .u64 (IntKind.u64.wrap n))) := cv_int un_21 un_85
theorem cvi_70_2 {k : IntKind} {n : Int} {es : Option (List PV)} : convP Try.prog 70 2 false es (some (.int k n)) = some (.val (.int .i64 (IntKind.i64.wrap n))) := cv_int un_70 un_2
theorem cvi_70_3 {k : IntKind} {n : Int} {es : Option (List PV)} : convP Try.prog 70 3 false es (some (.int k n)) = some (.val (.int .i64 (IntKind.i64.wrap n))) := cv_int un_70 un_3
theorem cvi_70_5 {k : IntKind} {n : Int} {es : Option (List PV)} : convP Try.prog 70 5 false es (some (.int k n)) = some (.val (.int .u8 (IntKind.u8.wrap n))) := cv_int un_70 un_5
theorem cvi_70_12 {k : IntKind} {n : Int} {es : Option (List PV)} : convP Try.prog 70 12 false es (some (.int k n)) = some (.val (.int .u64 (IntKind.u64.wrap n))) := cv_int un_70 un_12
theorem cvi_70_21 {k : IntKind} {n : Int} {es : Option (List PV)} : convP Try.prog 70 21 false es (some (.int k n)) = some (.val (.int .i32 (IntKind.i32.wrap n))) := cv_int un_70 un_21
theorem cvi_70_70 {k : IntKind} {n : Int} {es : Option (List PV)} : convP Try.prog 70 70 false es (some (.int k n)) = some (.val (.int .u64 (IntKind.u64.wrap n))) := cv_int un_70 un_70
theorem cvi_70_82 {k : IntKind} {n : Int} {es : Option (List PV)} : convP Try.prog 70 82 false es (some (.int k n)) = some (.val (.int .u32 (IntKind.u32.wrap n))) := cv_int un_70 un_82
theorem cvi_70_85 {k : IntKind} {n : Int} {es : Option (List PV)} : convP Try.prog 70 85 false es (some (.int k n)) = some (.val (.int .u64 (IntKind.u64.wrap n))) := cv_int un_70 un_85
theorem cvi_82_2 {k : IntKind} {n : Int} {es : Option (List PV)} : convP Try.prog 82 2 false es (some (.int k n)) = some (.val (.int .i64 (IntKind.i64.wrap n))) := cv_int un_82 un_2
theorem cvi_82_3 {k : IntKind} {n : Int} {es : Option (List PV)} : convP Try.prog 82 3 false es (some (.int k n)) = some (.val (.int .i64 (IntKind.i64.wrap n))) := cv_int un_82 un_3
theorem cvi_82_5 {k : IntKind} {n : Int} {es : Option (List PV)} : convP Try.prog 82 5 false es (some (.int k n)) = some (.val (.int .u8 (IntKind.u8.wrap n))) := cv_int un_82 un_5
theorem cvi_82_12 {k : IntKind} {n : Int} {es : Option (List PV)} : convP Try.prog 82 12 false es (some (.int k n)) = some (.val (.int .u64 (IntKind.u64.wrap n))) := cv_int un_82 un_12
theorem cvi_82_21 {k : IntKind} {n : Int} {es : Option (List PV)} : convP Try.prog 82 21 false es (some (.int k n)) = some (.val (.int .i32 (IntKind.i32.wrap n))) := cv_int un_82 un_21
theorem cvi_82_70 {k : IntKind} {n : Int} {es : Option (List PV)} : convP Try.prog 82 70 false es (some (.int k n)) = some (.val (.int .u64 (IntKind.u64.wrap n))) := cv_int un_82 un_70
theorem cvi_82_82 {k : IntKind} {n : Int} {es : Option (List PV)} : convP Try.prog 82 82 false es (some (.int k n)) = some (.val (.int .u32 (IntKind.u32.wrap n))) := cv_int un_82 un_82
theorem cvi_82_85 {k : IntKind} {n : Int} {es : Option (List PV)} : convP Try.prog 82 85 false es (some (.int k n)) = some (.val (.int .u64 (IntKind.u64.wrap n))) := cv_int un_82 un_85
theorem cvi_85_2 {k : IntKind} {n : Int} {es : Option (List PV)} : convP Try.prog 85 2 false es (some (.int k n)) = some (.val (.int .i64 (IntKind.i64.wrap n))) := cv_int un_85 un_2
theorem cvi_85_3 {k : IntKind} {n : Int} {es : Option (List PV)} : convP Try.prog 85 3 false es (some (.int k n)) = some (.val (.int .i64 (IntKind.i64.wrap n))) := cv_int un_85 un_3
theorem cvi_85_5 {k : IntKind} {n : Int} {es : Option (List PV)} : convP Try.prog 85 5 false es (some (.int k n)) = some (.val (.int .u8 (IntKind.u8.wrap n))) := cv_int un_85 un_5
theorem cvi_85_12 {k : IntKind} {n : Int} {es : Option (List PV)} : convP Try.prog 85 12 false es (some (.int k n)) = some (.val (.int .u64 (IntKind.u64.wrap n))) := cv_int un_85 un_12
theorem cvi_85_21 {k : IntKind} {n : Int} {es : Option (List PV)} : convP Try.prog 85 21 false es (some (.int k n)) = some (.val (.int .i32 (IntKind.i32.wrap n))) := cv_int un_85 un_21
theorem cvi_85_70 {k : IntKind} {n : Int} {es : Option (List PV)} : convP Try.prog 85 70 false es (some (.int k n)) = some (.val (.int .u64 (IntKind.u64.wrap n))) := cv_int un_85 un_70
theorem cvi_85_82 {k : IntKind} {n : Int} {es : Option (List PV)} : convP Try.prog 85 82 false es (some (.int k n)) = some (.val (.int .u32 (IntKind.u32.wrap n))) := cv_int un_85 un_82
theorem cvi_85_85 {k : IntKind} {n : Int} {es : Option (List PV)} : convP Try.prog 85 85 false es (some (.int k n)) = some (.val (.int .u64 (IntKind.u64.wrap n))) := cv_int un_85 un_85
theorem rw_22_0 : rowEs Try.prog 22 0 [] = rowC 5 1 [] (true) := rw_of el_22 sz_5 ze_5 _ (by decide) (by decide) rfl
theorem rw_22_1 {a0 : PV} : rowEs Try.prog 22 1 [(0, a0)] = rowC 5 1 [a0] (okP 1 a0 && (true)) := rw_of el_22 sz_5 ze_5 _ (by decide) (by decide) rfl
theorem rw_29_0 : rowEs Try.prog 29 0 [] = rowC 9 1 [] (true) := rw_of el_29 sz_9 ze_9 _ (by decide) (by decide) rfl
theorem rw_29_1 {a0 : PV} : rowEs Try.prog 29 1 [(0, a0)] = rowC 9 1 [a0] (okP 1 a0 && (true)) := rw_of el_29 sz_9 ze_9 _ (by decide) (by decide) rfl
theorem rw_29_5 {a0 a1 a2 a3 a4 : PV} : rowEs Try.prog 29 5 [(0, a0), (1, a1), (2, a2), (3, a3), (4, a4)] = rowC 9 1 [a0, a1, a2, a3, a4] (okP 1 a0 && (okP 1 a1 && (okP 1 a2 && (okP 1 a3 && (okP 1 a4 && (true)))))) := rw_of el_29 sz_9 ze_9 _ (by decide) (by decide) rfl
theorem rw_29_12 {a0 a1 a2 a3 a4 a5 a6 a7 a8 a9 a10 a11 : PV} : rowEs Try.prog 29 12 [(0, a0), (1, a1), (2, a2), (3, a3), (4, a4), (5, a5), (6, a6), (7, a7), (8, a8), (9, a9), (10, a10), (11, a11)] = rowC 9 1 [a0, a1, a2, a3, a4, a5, a6, a7, a8, a9, a10, a11] (okP 1 a0 && (okP 1 a1 && (okP 1 a2 && (okP 1 a3 && (okP 1 a4 && (okP 1 a5 && (okP 1 a6 && (okP 1 a7 && (okP 1 a8 && (okP 1 a9 && (okP 1 a10 && (okP 1 a11 && (true))))))))))))) := rw_of el_29 sz_9 ze_9 _ (by decide) (by decide) rfl
theorem rw_47_0 : rowEs Try.prog 47 0 [] = rowC 3 1 [] (true) := rw_of el_47 sz_3 ze_3 _ (by decide) (by decide) rfl
theorem rw_47_1 {a0 : PV} : rowEs Try.prog 47 1 [(0, a0)] = rowC 3 1 [a0] (okP 1 a0 && (true)) := rw_of el_47 sz_3 ze_3 _ (by decide) (by decide) rfl
theorem rw_47_4 {a0 a1 a2 a3 : PV} : rowEs Try.prog 47 4 [(0, a0), (1, a1), (2, a2), (3, a3)] = rowC 3 1 [a0, a1, a2, a3] (okP 1 a0 && (okP 1 a1 && (okP 1 a2 && (okP 1 a3 && (true))))) := rw_of el_47 sz_3 ze_3 _ (by decide) (by decide) rfl
theorem rw_47_7 {a0 a1 a2 a3 a4 a5 a6 : PV} : rowEs Try.prog 47 7 [(0, a0), (1, a1), (2, a2), (3, a3), (4, a4), (5, a5), (6, a6)] = rowC 3 1 [a0, a1, a2, a3, a4, a5, a6] (okP 1 a0 && (okP 1 a1 && (okP 1 a2 && (okP 1 a3 && (okP 1 a4 && (okP 1 a5 && (okP 1 a6 && (true)))))))) := rw_of el_47 sz_3 ze_3 _ (by decide) (by decide) rfl
theorem mixed : Try.prog.follows .mixedOrders = true := by kernel_rfl
attribute [push_cast high]
  bz_7
  bz_13
  bz_23
  bz_24
  bz_68
  bz_69
  bz_79
  bz_80
attribute [push_cast]
  sz_2
  ag_2
  by_2
  ze_2
  un_2
  oz_2
  ea_2
  bs_2
  is_2
  sz_3
  ag_3
  by_3
  ze_3
  un_3
  oz_3
  ea_3
  bs_3
  is_3
  sz_4
  ag_4
  by_4
  ze_4
  un_4
  bqe_4
  bqn_4
  oz_4
  ea_4
  bs_4
  is_4
  sz_5
  ag_5
  by_5
  ze_5
  un_5
  oz_5
  ea_5
  bs_5
  is_5
  sz_7
  ag_7
  by_7
  ze_7
  fo_7_0
  fo_7_1
  fo_7_2
  fo_7_3
  pl_7
  bl_7
  oz_7
  ea_7
  bs_7
  is_7
  sz_9
  ag_9
  by_9
  ze_9
  un_9
  lps_9
  ixs_9
  oz_9
  ea_9
  bs_9
  is_9
  sz_12
  ag_12
  by_12
  ze_12
  un_12
  oz_12
  ea_12
  bs_12
  is_12
  sz_13
  ag_13
  by_13
  ze_13
  fo_13_0
  fo_13_1
  pl_13
  bl_13
  oz_13
  ea_13
  bs_13
  is_13
  sz_21
  ag_21
  by_21
  ze_21
  un_21
  oz_21
  ea_21
  bs_21
  is_21
  sz_23
  ag_23
  by_23
  ze_23
  fo_23_0
  fo_23_1
  pl_23
  bl_23
  oz_23
  ea_23
  bs_23
  is_23
  sz_24
  ag_24
  by_24
  ze_24
  fo_24_0
  fo_24_1
  pl_24
  bl_24
  oz_24
  ea_24
  bs_24
  is_24
  sz_68
  ag_68
  by_68
  ze_68
  fo_68_0
  fo_68_1
  fo_68_2
  fo_68_3
  pl_68
  bl_68
  oz_68
  ea_68
  bs_68
  is_68
  sz_69
  ag_69
  by_69
  ze_69
  fo_69_0
  fo_69_1
  fo_69_2
  fo_69_3
  pl_69
  bl_69
  oz_69
  ea_69
  sqeql_69
  sqneq_69
  bs_69
  is_69
  sz_70
  ag_70
  by_70
  ze_70
  un_70
  oz_70
  ea_70
  bs_70
  is_70
  sz_79
  ag_79
  by_79
  ze_79
  fo_79_0
  fo_79_1
  pl_79
  bl_79
  oz_79
  ea_79
  bs_79
  is_79
  sz_80
  ag_80
  by_80
  ze_80
  fo_80_0
  fo_80_1
  pl_80
  bl_80
  oz_80
  ea_80
  bs_80
  is_80
  sz_82
  ag_82
  by_82
  ze_82
  un_82
  oz_82
  ea_82
  bs_82
  is_82
  sz_85
  ag_85
  by_85
  ze_85
  un_85
  oz_85
  ea_85
  bs_85
  is_85
  sz_22
  ag_22
  by_22
  ze_22
  un_22
  el_22
  ix_22
  ixr_22
  sl_22
  slr_22
  sle_22
  lpl_22
  lpr_22
  lpn_22
  oz_22
  ea_22
  em_22
  eap_22
  ecp_22
  bs_22
  is_22
  sz_29
  ag_29
  by_29
  ze_29
  un_29
  el_29
  ix_29
  ixr_29
  sl_29
  slr_29
  sle_29
  lpl_29
  lpr_29
  lpn_29
  oz_29
  ea_29
  em_29
  eap_29
  ecp_29
  bs_29
  is_29
  sz_47
  ag_47
  by_47
  ze_47
  un_47
  el_47
  ix_47
  ixr_47
  sl_47
  slr_47
  sle_47
  lpl_47
  lpr_47
  lpn_47
  oz_47
  ea_47
  em_47
  eap_47
  ecp_47
  bs_47
  is_47
  cvi_2_2
  cvi_2_3
  cvi_2_5
  cvi_2_12
  cvi_2_21
  cvi_2_70
  cvi_2_82
  cvi_2_85
  cvi_3_2
  cvi_3_3
  cvi_3_5
  cvi_3_12
  cvi_3_21
  cvi_3_70
  cvi_3_82
  cvi_3_85
  cvi_5_2
  cvi_5_3
  cvi_5_5
  cvi_5_12
  cvi_5_21
  cvi_5_70
  cvi_5_82
  cvi_5_85
  cvi_12_2
  cvi_12_3
  cvi_12_5
  cvi_12_12
  cvi_12_21
  cvi_12_70
  cvi_12_82
  cvi_12_85
  cvi_21_2
  cvi_21_3
  cvi_21_5
  cvi_21_12
  cvi_21_21
  cvi_21_70
  cvi_21_82
  cvi_21_85
  cvi_70_2
  cvi_70_3
  cvi_70_5
  cvi_70_12
  cvi_70_21
  cvi_70_70
  cvi_70_82
  cvi_70_85
  cvi_82_2
  cvi_82_3
  cvi_82_5
  cvi_82_12
  cvi_82_21
  cvi_82_70
  cvi_82_82
  cvi_82_85
  cvi_85_2
  cvi_85_3
  cvi_85_5
  cvi_85_12
  cvi_85_21
  cvi_85_70
  cvi_85_82
  cvi_85_85
  rw_22_0
  rw_22_1
  rw_29_0
  rw_29_1
  rw_29_5
  rw_29_12
  rw_47_0
  rw_47_1
  rw_47_4
  rw_47_7
end Go.Proofs.Ytenldjifipnjpaa
