/- What the proof rests on, part 7: contracts of functions. No condition beyond what each states. -/
import Derived.Test.YtpggpdbipajchaaGreatDoorZIpD6
namespace Go.Proofs.YtpggpdbipajchaaGreatDoor
open Go.RowKit
set_option linter.all false
theorem sz_2 : tySize Tryz.prog 2 = some 1 := by kernel_rfl
theorem ag_2 : tyAgg Tryz.prog 2 = some false := by kernel_rfl
theorem by_2 : tyBytes Tryz.prog 2 = some 8 := by kernel_rfl
theorem ze_2 : zeroOf Tryz.prog 2 = some (.int .i64 0) := by kernel_rfl
theorem un_2 : Tryz.prog.underlying 2 = some (.int .i64) := by kernel_rfl
theorem oz_2 : ofVal (.int .i64 0) = .val (.int .i64 0) := rfl
theorem ea_2 {Γ : Ctx} (s : AS) (ρ : Operand → PV) : evEff Tryz.prog Γ s ρ (.alloc 2) = some (.own s.nx 1 0 0, upd s.ob s.nx (some (2, 1, [.val (.int .i64 0)])), s.nx + 1) := ea_of ze_2 (by kernel_rfl) rfl rfl s ρ
theorem bs_2 : isByteSlice Tryz.prog 2 = false := by kernel_rfl
theorem is_2 : isStr Tryz.prog 2 = false := by kernel_rfl
theorem sz_3 : tySize Tryz.prog 3 = some 1 := by kernel_rfl
theorem ag_3 : tyAgg Tryz.prog 3 = some false := by kernel_rfl
theorem by_3 : tyBytes Tryz.prog 3 = some 8 := by kernel_rfl
theorem ze_3 : zeroOf Tryz.prog 3 = some (.int .i64 0) := by kernel_rfl
theorem un_3 : Tryz.prog.underlying 3 = some (.int .i64) := by kernel_rfl
theorem oz_3 : ofVal (.int .i64 0) = .val (.int .i64 0) := rfl
theorem ea_3 {Γ : Ctx} (s : AS) (ρ : Operand → PV) : evEff Tryz.prog Γ s ρ (.alloc 3) = some (.own s.nx 1 0 0, upd s.ob s.nx (some (3, 1, [.val (.int .i64 0)])), s.nx + 1) := ea_of ze_3 (by kernel_rfl) rfl rfl s ρ
theorem bs_3 : isByteSlice Tryz.prog 3 = false := by kernel_rfl
theorem is_3 : isStr Tryz.prog 3 = false := by kernel_rfl
theorem sz_4 : tySize Tryz.prog 4 = some 1 := by kernel_rfl
theorem ag_4 : tyAgg Tryz.prog 4 = some false := by kernel_rfl
theorem by_4 : tyBytes Tryz.prog 4 = some 1 := by kernel_rfl
theorem ze_4 : zeroOf Tryz.prog 4 = some (.bool false) := by kernel_rfl
theorem un_4 : Tryz.prog.underlying 4 = some .bool := by kernel_rfl
theorem bqe_4 {x y : Operand} {a b : Bool} : binP Tryz.prog .eql 4 x y (some (.bool a)) (some (.bool b)) = some (.val (.bool (a == b))) := bp_eqlB un_4
theorem bqn_4 {x y : Operand} {a b : Bool} : binP Tryz.prog .neq 4 x y (some (.bool a)) (some (.bool b)) = some (.val (.bool (!(a == b)))) := bp_neqB un_4
theorem oz_4 : ofVal (.bool false) = .val (.bool false) := rfl
theorem ea_4 {Γ : Ctx} (s : AS) (ρ : Operand → PV) : evEff Tryz.prog Γ s ρ (.alloc 4) = some (.own s.nx 1 0 0, upd s.ob s.nx (some (4, 1, [.val (.bool false)])), s.nx + 1) := ea_of ze_4 (by kernel_rfl) rfl rfl s ρ
theorem bs_4 : isByteSlice Tryz.prog 4 = false := by kernel_rfl
theorem is_4 : isStr Tryz.prog 4 = false := by kernel_rfl
theorem sz_5 : tySize Tryz.prog 5 = some 1 := by kernel_rfl
theorem ag_5 : tyAgg Tryz.prog 5 = some false := by kernel_rfl
theorem by_5 : tyBytes Tryz.prog 5 = some 1 := by kernel_rfl
theorem ze_5 : zeroOf Tryz.prog 5 = some (.int .u8 0) := by kernel_rfl
theorem un_5 : Tryz.prog.underlying 5 = some (.int .u8) := by kernel_rfl
theorem oz_5 : ofVal (.int .u8 0) = .val (.int .u8 0) := rfl
theorem ea_5 {Γ : Ctx} (s : AS) (ρ : Operand → PV) : evEff Tryz.prog Γ s ρ (.alloc 5) = some (.own s.nx 1 0 0, upd s.ob s.nx (some (5, 1, [.val (.int .u8 0)])), s.nx + 1) := ea_of ze_5 (by kernel_rfl) rfl rfl s ρ
theorem bs_5 : isByteSlice Tryz.prog 5 = false := by kernel_rfl
theorem is_5 : isStr Tryz.prog 5 = false := by kernel_rfl
theorem sz_7 : tySize Tryz.prog 7 = some 4 := by kernel_rfl
theorem ag_7 : tyAgg Tryz.prog 7 = some true := by kernel_rfl
theorem by_7 : tyBytes Tryz.prog 7 = some 24 := by kernel_rfl
theorem ze_7 : zeroOf Tryz.prog 7 = some (.agg #[.int .i64 0, .int .i64 0, .bool false, .int .u8 0]) := by kernel_rfl
theorem fo_7_0 : fieldOff Tryz.prog 7 0 = some 0 := by kernel_rfl
theorem fo_7_1 : fieldOff Tryz.prog 7 1 = some 1 := by kernel_rfl
theorem fo_7_2 : fieldOff Tryz.prog 7 2 = some 2 := by kernel_rfl
theorem fo_7_3 : fieldOff Tryz.prog 7 3 = some 3 := by kernel_rfl
theorem pl_7 : structPlaces Tryz.prog 7 = some #[(0, 1), (1, 1), (2, 1), (3, 1)] := by kernel_rfl
theorem bl_7 (ps : List (Nat × PV)) : evBuild Tryz.prog 7 ps = (fillP (plF [(0, 1), (1, 1), (2, 1), (3, 1)]) [.val (.int .i64 0), .val (.int .i64 0), .val (.bool false), .val (.int .u8 0)] ps).map .agg := bl_of ze_7 rfl pl_7 ps
theorem oz_7 : ofVal (.agg #[.int .i64 0, .int .i64 0, .bool false, .int .u8 0]) = .agg [.val (.int .i64 0), .val (.int .i64 0), .val (.bool false), .val (.int .u8 0)] := rfl
theorem ea_7 {Γ : Ctx} (s : AS) (ρ : Operand → PV) : evEff Tryz.prog Γ s ρ (.alloc 7) = some (.own s.nx 4 0 0, upd s.ob s.nx (some (7, 4, [.agg [.val (.int .i64 0), .val (.int .i64 0), .val (.bool false), .val (.int .u8 0)]])), s.nx + 1) := ea_of ze_7 (by kernel_rfl) rfl rfl s ρ
theorem bz_7 {Γ : Ctx} {ob : Objs} {ρ : Operand → PV} {ty : Nat} : evVal Tryz.prog Γ ob ρ ty (.build 7 #[]) = some (.agg [.val (.int .i64 0), .val (.int .i64 0), .val (.bool false), .val (.int .u8 0)]) := (show evBuild Tryz.prog 7 [] = some (.agg [.val (.int .i64 0), .val (.int .i64 0), .val (.bool false), .val (.int .u8 0)]) from by kernel_rfl)
theorem bs_7 : isByteSlice Tryz.prog 7 = false := by kernel_rfl
theorem is_7 : isStr Tryz.prog 7 = false := by kernel_rfl
theorem sz_9 : tySize Tryz.prog 9 = some 1 := by kernel_rfl
theorem ag_9 : tyAgg Tryz.prog 9 = some false := by kernel_rfl
theorem by_9 : tyBytes Tryz.prog 9 = some 16 := by kernel_rfl
theorem ze_9 : zeroOf Tryz.prog 9 = some (.string ByteArray.empty) := by kernel_rfl
theorem un_9 : Tryz.prog.underlying 9 = some .string := by kernel_rfl
theorem lps_9 {ty : Nat} {s : ByteArray} : lenP Tryz.prog 9 ty (.val (.string s)) = some (.val (.int .i64 s.size)) := lp_str un_9
theorem ixs_9 {s : ByteArray} {i : Int} (h0 : 0 ≤ i) (h1 : i < s.size) : idxP Tryz.prog 9 (some (.string s)) (some (.int .i64 i)) = some (.val (.int .u8 (at8 s i.toNat))) := ix_str un_9 h0 h1
theorem oz_9 : ofVal (.string ByteArray.empty) = .val (.string ByteArray.empty) := rfl
theorem ea_9 {Γ : Ctx} (s : AS) (ρ : Operand → PV) : evEff Tryz.prog Γ s ρ (.alloc 9) = some (.own s.nx 1 0 0, upd s.ob s.nx (some (9, 1, [.val (.string ByteArray.empty)])), s.nx + 1) := ea_of ze_9 (by kernel_rfl) rfl rfl s ρ
theorem bs_9 : isByteSlice Tryz.prog 9 = false := by kernel_rfl
theorem is_9 : isStr Tryz.prog 9 = true := by kernel_rfl
theorem sz_12 : tySize Tryz.prog 12 = some 1 := by kernel_rfl
theorem ag_12 : tyAgg Tryz.prog 12 = some false := by kernel_rfl
theorem by_12 : tyBytes Tryz.prog 12 = some 8 := by kernel_rfl
theorem ze_12 : zeroOf Tryz.prog 12 = some (.int .u64 0) := by kernel_rfl
theorem un_12 : Tryz.prog.underlying 12 = some (.int .u64) := by kernel_rfl
theorem oz_12 : ofVal (.int .u64 0) = .val (.int .u64 0) := rfl
theorem ea_12 {Γ : Ctx} (s : AS) (ρ : Operand → PV) : evEff Tryz.prog Γ s ρ (.alloc 12) = some (.own s.nx 1 0 0, upd s.ob s.nx (some (12, 1, [.val (.int .u64 0)])), s.nx + 1) := ea_of ze_12 (by kernel_rfl) rfl rfl s ρ
theorem bs_12 : isByteSlice Tryz.prog 12 = false := by kernel_rfl
theorem is_12 : isStr Tryz.prog 12 = false := by kernel_rfl
theorem sz_13 : tySize Tryz.prog 13 = some 2 := by kernel_rfl
theorem ag_13 : tyAgg Tryz.prog 13 = some true := by kernel_rfl
theorem by_13 : tyBytes Tryz.prog 13 = some 24 := by kernel_rfl
theorem ze_13 : zeroOf Tryz.prog 13 = some (.agg #[.string ByteArray.empty, .int .u64 0]) := by kernel_rfl
theorem fo_13_0 : fieldOff Tryz.prog 13 0 = some 0 := by kernel_rfl
theorem fo_13_1 : fieldOff Tryz.prog 13 1 = some 1 := by kernel_rfl
theorem pl_13 : structPlaces Tryz.prog 13 = some #[(0, 1), (1, 1)] := by kernel_rfl
theorem bl_13 (ps : List (Nat × PV)) : evBuild Tryz.prog 13 ps = (fillP (plF [(0, 1), (1, 1)]) [.val (.string ByteArray.empty), .val (.int .u64 0)] ps).map .agg := bl_of ze_13 rfl pl_13 ps
theorem oz_13 : ofVal (.agg #[.string ByteArray.empty, .int .u64 0]) = .agg [.val (.string ByteArray.empty), .val (.int .u64 0)] := rfl
theorem ea_13 {Γ : Ctx} (s : AS) (ρ : Operand → PV) : evEff Tryz.prog Γ s ρ (.alloc 13) = some (.own s.nx 2 0 0, upd s.ob s.nx (some (13, 2, [.agg [.val (.string ByteArray.empty), .val (.int .u64 0)]])), s.nx + 1) := ea_of ze_13 (by kernel_rfl) rfl rfl s ρ
theorem bz_13 {Γ : Ctx} {ob : Objs} {ρ : Operand → PV} {ty : Nat} : evVal Tryz.prog Γ ob ρ ty (.build 13 #[]) = some (.agg [.val (.string ByteArray.empty), .val (.int .u64 0)]) := (show evBuild Tryz.prog 13 [] = some (.agg [.val (.string ByteArray.empty), .val (.int .u64 0)]) from by kernel_rfl)
theorem bs_13 : isByteSlice Tryz.prog 13 = false := by kernel_rfl
theorem is_13 : isStr Tryz.prog 13 = false := by kernel_rfl
theorem sz_21 : tySize Tryz.prog 21 = some 1 := by kernel_rfl
theorem ag_21 : tyAgg Tryz.prog 21 = some false := by kernel_rfl
theorem by_21 : tyBytes Tryz.prog 21 = some 4 := by kernel_rfl
theorem ze_21 : zeroOf Tryz.prog 21 = some (.int .i32 0) := by kernel_rfl
theorem un_21 : Tryz.prog.underlying 21 = some (.int .i32) := by kernel_rfl
theorem oz_21 : ofVal (.int .i32 0) = .val (.int .i32 0) := rfl
theorem ea_21 {Γ : Ctx} (s : AS) (ρ : Operand → PV) : evEff Tryz.prog Γ s ρ (.alloc 21) = some (.own s.nx 1 0 0, upd s.ob s.nx (some (21, 1, [.val (.int .i32 0)])), s.nx + 1) := ea_of ze_21 (by kernel_rfl) rfl rfl s ρ
theorem bs_21 : isByteSlice Tryz.prog 21 = false := by kernel_rfl
theorem is_21 : isStr Tryz.prog 21 = false := by kernel_rfl
theorem sz_38 : tySize Tryz.prog 38 = some 2 := by kernel_rfl
theorem ag_38 : tyAgg Tryz.prog 38 = some true := by kernel_rfl
theorem by_38 : tyBytes Tryz.prog 38 = some 24 := by kernel_rfl
theorem ze_38 : zeroOf Tryz.prog 38 = some (.agg #[.string ByteArray.empty, .int .i64 0]) := by kernel_rfl
theorem fo_38_0 : fieldOff Tryz.prog 38 0 = some 0 := by kernel_rfl
theorem fo_38_1 : fieldOff Tryz.prog 38 1 = some 1 := by kernel_rfl
theorem pl_38 : structPlaces Tryz.prog 38 = some #[(0, 1), (1, 1)] := by kernel_rfl
theorem bl_38 (ps : List (Nat × PV)) : evBuild Tryz.prog 38 ps = (fillP (plF [(0, 1), (1, 1)]) [.val (.string ByteArray.empty), .val (.int .i64 0)] ps).map .agg := bl_of ze_38 rfl pl_38 ps
theorem oz_38 : ofVal (.agg #[.string ByteArray.empty, .int .i64 0]) = .agg [.val (.string ByteArray.empty), .val (.int .i64 0)] := rfl
theorem ea_38 {Γ : Ctx} (s : AS) (ρ : Operand → PV) : evEff Tryz.prog Γ s ρ (.alloc 38) = some (.own s.nx 2 0 0, upd s.ob s.nx (some (38, 2, [.agg [.val (.string ByteArray.empty), .val (.int .i64 0)]])), s.nx + 1) := ea_of ze_38 (by kernel_rfl) rfl rfl s ρ
theorem bz_38 {Γ : Ctx} {ob : Objs} {ρ : Operand → PV} {ty : Nat} : evVal Tryz.prog Γ ob ρ ty (.build 38 #[]) = some (.agg [.val (.string ByteArray.empty), .val (.int .i64 0)]) := (show evBuild Tryz.prog 38 [] = some (.agg [.val (.string ByteArray.empty), .val (.int .i64 0)]) from by kernel_rfl)
theorem bs_38 : isByteSlice Tryz.prog 38 = false := by kernel_rfl
theorem is_38 : isStr Tryz.prog 38 = false := by kernel_rfl
theorem sz_39 : tySize Tryz.prog 39 = some 2 := by kernel_rfl
theorem ag_39 : tyAgg Tryz.prog 39 = some true := by kernel_rfl
theorem by_39 : tyBytes Tryz.prog 39 = some 24 := by kernel_rfl
theorem ze_39 : zeroOf Tryz.prog 39 = some (.agg #[.string ByteArray.empty, .int .i64 0]) := by kernel_rfl
theorem fo_39_0 : fieldOff Tryz.prog 39 0 = some 0 := by kernel_rfl
theorem fo_39_1 : fieldOff Tryz.prog 39 1 = some 1 := by kernel_rfl
theorem pl_39 : structPlaces Tryz.prog 39 = some #[(0, 1), (1, 1)] := by kernel_rfl
theorem bl_39 (ps : List (Nat × PV)) : evBuild Tryz.prog 39 ps = (fillP (plF [(0, 1), (1, 1)]) [.val (.string ByteArray.empty), .val (.int .i64 0)] ps).map .agg := bl_of ze_39 rfl pl_39 ps
theorem oz_39 : ofVal (.agg #[.string ByteArray.empty, .int .i64 0]) = .agg [.val (.string ByteArray.empty), .val (.int .i64 0)] := rfl
theorem ea_39 {Γ : Ctx} (s : AS) (ρ : Operand → PV) : evEff Tryz.prog Γ s ρ (.alloc 39) = some (.own s.nx 2 0 0, upd s.ob s.nx (some (39, 2, [.agg [.val (.string ByteArray.empty), .val (.int .i64 0)]])), s.nx + 1) := ea_of ze_39 (by kernel_rfl) rfl rfl s ρ
theorem bz_39 {Γ : Ctx} {ob : Objs} {ρ : Operand → PV} {ty : Nat} : evVal Tryz.prog Γ ob ρ ty (.build 39 #[]) = some (.agg [.val (.string ByteArray.empty), .val (.int .i64 0)]) := (show evBuild Tryz.prog 39 [] = some (.agg [.val (.string ByteArray.empty), .val (.int .i64 0)]) from by kernel_rfl)
theorem fd_39 : Tryz.prog.underlying 39 = some (.struct (Go.Program.fieldsOf Tryz.prog 39)) := by kernel_rfl
theorem ef_39 {a0 b0 : ByteArray} {a1 b1 : Int} : eqFl Tryz.prog [.string a0, .int .i64 a1] [.string b0, .int .i64 b1] (Go.Program.fieldsOf Tryz.prog 39).toList = some ((a0.toList == b0.toList) && ((a1 == b1) && true)) := by kernel_rfl
theorem sqeql_39 {x y : Operand} {a0 b0 : ByteArray} {a1 b1 : Int} : binP Tryz.prog .eql 39 x y (some (.agg #[.string a0, .int .i64 a1])) (some (.agg #[.string b0, .int .i64 b1])) = some (.val (.bool ((a0.toList == b0.toList) && ((a1 == b1) && true)))) := bp_eqlA fd_39 (by kernel_rfl) (by kernel_rfl) ef_39
theorem sqneq_39 {x y : Operand} {a0 b0 : ByteArray} {a1 b1 : Int} : binP Tryz.prog .neq 39 x y (some (.agg #[.string a0, .int .i64 a1])) (some (.agg #[.string b0, .int .i64 b1])) = some (.val (.bool (!((a0.toList == b0.toList) && ((a1 == b1) && true))))) := bp_neqA fd_39 (by kernel_rfl) (by kernel_rfl) ef_39
theorem bs_39 : isByteSlice Tryz.prog 39 = false := by kernel_rfl
theorem is_39 : isStr Tryz.prog 39 = false := by kernel_rfl
theorem sz_49 : tySize Tryz.prog 49 = some 4 := by kernel_rfl
theorem ag_49 : tyAgg Tryz.prog 49 = some true := by kernel_rfl
theorem by_49 : tyBytes Tryz.prog 49 = some 32 := by kernel_rfl
theorem ze_49 : zeroOf Tryz.prog 49 = some (.agg #[.int .i64 0, .int .i64 0, .int .i64 0, .int .i64 0]) := by kernel_rfl
theorem fo_49_0 : fieldOff Tryz.prog 49 0 = some 0 := by kernel_rfl
theorem fo_49_1 : fieldOff Tryz.prog 49 1 = some 1 := by kernel_rfl
theorem fo_49_2 : fieldOff Tryz.prog 49 2 = some 2 := by kernel_rfl
theorem fo_49_3 : fieldOff Tryz.prog 49 3 = some 3 := by kernel_rfl
theorem pl_49 : structPlaces Tryz.prog 49 = some #[(0, 1), (1, 1), (2, 1), (3, 1)] := by kernel_rfl
theorem bl_49 (ps : List (Nat × PV)) : evBuild Tryz.prog 49 ps = (fillP (plF [(0, 1), (1, 1), (2, 1), (3, 1)]) [.val (.int .i64 0), .val (.int .i64 0), .val (.int .i64 0), .val (.int .i64 0)] ps).map .agg := bl_of ze_49 rfl pl_49 ps
theorem oz_49 : ofVal (.agg #[.int .i64 0, .int .i64 0, .int .i64 0, .int .i64 0]) = .agg [.val (.int .i64 0), .val (.int .i64 0), .val (.int .i64 0), .val (.int .i64 0)] := rfl
theorem ea_49 {Γ : Ctx} (s : AS) (ρ : Operand → PV) : evEff Tryz.prog Γ s ρ (.alloc 49) = some (.own s.nx 4 0 0, upd s.ob s.nx (some (49, 4, [.agg [.val (.int .i64 0), .val (.int .i64 0), .val (.int .i64 0), .val (.int .i64 0)]])), s.nx + 1) := ea_of ze_49 (by kernel_rfl) rfl rfl s ρ
theorem bz_49 {Γ : Ctx} {ob : Objs} {ρ : Operand → PV} {ty : Nat} : evVal Tryz.prog Γ ob ρ ty (.build 49 #[]) = some (.agg [.val (.int .i64 0), .val (.int .i64 0), .val (.int .i64 0), .val (.int .i64 0)]) := (show evBuild Tryz.prog 49 [] = some (.agg [.val (.int .i64 0), .val (.int .i64 0), .val (.int .i64 0), .val (.int .i64 0)]) from by kernel_rfl)
theorem bs_49 : isByteSlice Tryz.prog 49 = false := by kernel_rfl
theorem is_49 : isStr Tryz.prog 49 = false := by kernel_rfl
theorem sz_50 : tySize Tryz.prog 50 = some 4 := by kernel_rfl
theorem ag_50 : tyAgg Tryz.prog 50 = some true := by kernel_rfl
theorem by_50 : tyBytes Tryz.prog 50 = some 32 := by kernel_rfl
theorem ze_50 : zeroOf Tryz.prog 50 = some (.agg #[.int .i64 0, .int .i64 0, .int .i64 0, .int .i64 0]) := by kernel_rfl
theorem fo_50_0 : fieldOff Tryz.prog 50 0 = some 0 := by kernel_rfl
theorem fo_50_1 : fieldOff Tryz.prog 50 1 = some 1 := by kernel_rfl
theorem fo_50_2 : fieldOff Tryz.prog 50 2 = some 2 := by kernel_rfl
theorem fo_50_3 : fieldOff Tryz.prog 50 3 = some 3 := by kernel_rfl
theorem pl_50 : structPlaces Tryz.prog 50 = some #[(0, 1), (1, 1), (2, 1), (3, 1)] := by kernel_rfl
theorem bl_50 (ps : List (Nat × PV)) : evBuild Tryz.prog 50 ps = (fillP (plF [(0, 1), (1, 1), (2, 1), (3, 1)]) [.val (.int .i64 0), .val (.int .i64 0), .val (.int .i64 0), .val (.int .i64 0)] ps).map .agg := bl_of ze_50 rfl pl_50 ps
theorem oz_50 : ofVal (.agg #[.int .i64 0, .int .i64 0, .int .i64 0, .int .i64 0]) = .agg [.val (.int .i64 0), .val (.int .i64 0), .val (.int .i64 0), .val (.int .i64 0)] := rfl
theorem ea_50 {Γ : Ctx} (s : AS) (ρ : Operand → PV) : evEff Tryz.prog Γ s ρ (.alloc 50) = some (.own s.nx 4 0 0, upd s.ob s.nx (some (50, 4, [.agg [.val (.int .i64 0), .val (.int .i64 0), .val (.int .i64 0), .val (.int .i64 0)]])), s.nx + 1) := ea_of ze_50 (by kernel_rfl) rfl rfl s ρ
theorem bz_50 {Γ : Ctx} {ob : Objs} {ρ : Operand → PV} {ty : Nat} : evVal Tryz.prog Γ ob ρ ty (.build 50 #[]) = some (.agg [.val (.int .i64 0), .val (.int .i64 0), .val (.int .i64 0), .val (.int .i64 0)]) := (show evBuild Tryz.prog 50 [] = some (.agg [.val (.int .i64 0), .val (.int .i64 0), .val (.int .i64 0), .val (.int .i64 0)]) from by kernel_rfl)
theorem fd_50 : Tryz.prog.underlying 50 = some (.struct (Go.Program.fieldsOf Tryz.prog 50)) := by kernel_rfl
theorem ef_50 {a0 b0 : Int} {a1 b1 : Int} {a2 b2 : Int} {a3 b3 : Int} : eqFl Tryz.prog [.int .i64 a0, .int .i64 a1, .int .i64 a2, .int .i64 a3] [.int .i64 b0, .int .i64 b1, .int .i64 b2, .int .i64 b3] (Go.Program.fieldsOf Tryz.prog 50).toList = some ((a0 == b0) && ((a1 == b1) && ((a2 == b2) && ((a3 == b3) && true)))) := by kernel_rfl
theorem sqeql_50 {x y : Operand} {a0 b0 : Int} {a1 b1 : Int} {a2 b2 : Int} {a3 b3 : Int} : binP Tryz.prog .eql 50 x y (some (.agg #[.int .i64 a0, .int .i64 a1, .int .i64 a2, .int .i64 a3])) (some (.agg #[.int .i64 b0, .int .i64 b1, .int .i64 b2, .int .i64 b3])) = some (.val (.bool ((a0 == b0) && ((a1 == b1) && ((a2 == b2) && ((a3 == b3) && true)))))) := bp_eqlA fd_50 (by kernel_rfl) (by kernel_rfl) ef_50
theorem sqneq_50 {x y : Operand} {a0 b0 : Int} {a1 b1 : Int} {a2 b2 : Int} {a3 b3 : Int} : binP Tryz.prog .neq 50 x y (some (.agg #[.int .i64 a0, .int .i64 a1, .int .i64 a2, .int .i64 a3])) (some (.agg #[.int .i64 b0, .int .i64 b1, .int .i64 b2, .int .i64 b3])) = some (.val (.bool (!((a0 == b0) && ((a1 == b1) && ((a2 == b2) && ((a3 == b3) && true))))))) := bp_neqA fd_50 (by kernel_rfl) (by kernel_rfl) ef_50
theorem bs_50 : isByteSlice Tryz.prog 50 = false := by kernel_rfl
theorem is_50 : isStr Tryz.prog 50 = false := by kernel_rfl
theorem sz_53 : tySize Tryz.prog 53 = some 2 := by kernel_rfl
theorem ag_53 : tyAgg Tryz.prog 53 = some true := by kernel_rfl
theorem by_53 : tyBytes Tryz.prog 53 = some 32 := by kernel_rfl
theorem ze_53 : zeroOf Tryz.prog 53 = some (.agg #[.slice none 0 0, .int .i64 0]) := by kernel_rfl
theorem fo_53_0 : fieldOff Tryz.prog 53 0 = some 0 := by kernel_rfl
theorem fo_53_1 : fieldOff Tryz.prog 53 1 = some 1 := by kernel_rfl
theorem pl_53 : structPlaces Tryz.prog 53 = some #[(0, 1), (1, 1)] := by kernel_rfl
theorem bl_53 (ps : List (Nat × PV)) : evBuild Tryz.prog 53 ps = (fillP (plF [(0, 1), (1, 1)]) [.val (.slice none 0 0), .val (.int .i64 0)] ps).map .agg := bl_of ze_53 rfl pl_53 ps
theorem oz_53 : ofVal (.agg #[.slice none 0 0, .int .i64 0]) = .agg [.val (.slice none 0 0), .val (.int .i64 0)] := rfl
theorem ea_53 {Γ : Ctx} (s : AS) (ρ : Operand → PV) : evEff Tryz.prog Γ s ρ (.alloc 53) = some (.own s.nx 2 0 0, upd s.ob s.nx (some (53, 2, [.agg [.val (.slice none 0 0), .val (.int .i64 0)]])), s.nx + 1) := ea_of ze_53 (by kernel_rfl) rfl rfl s ρ
theorem bz_53 {Γ : Ctx} {ob : Objs} {ρ : Operand → PV} {ty : Nat} : evVal Tryz.prog Γ ob ρ ty (.build 53 #[]) = some (.agg [.val (.slice none 0 0), .val (.int .i64 0)]) := (show evBuild Tryz.prog 53 [] = some (.agg [.val (.slice none 0 0), .val (.int .i64 0)]) from by kernel_rfl)
theorem bs_53 : isByteSlice Tryz.prog 53 = false := by kernel_rfl
theorem is_53 : isStr Tryz.prog 53 = false := by kernel_rfl
theorem sz_54 : tySize Tryz.prog 54 = some 2 := by kernel_rfl
theorem ag_54 : tyAgg Tryz.prog 54 = some true := by kernel_rfl
theorem by_54 : tyBytes Tryz.prog 54 = some 32 := by kernel_rfl
theorem ze_54 : zeroOf Tryz.prog 54 = some (.agg #[.slice none 0 0, .int .i64 0]) := by kernel_rfl
theorem fo_54_0 : fieldOff Tryz.prog 54 0 = some 0 := by kernel_rfl
theorem fo_54_1 : fieldOff Tryz.prog 54 1 = some 1 := by kernel_rfl
theorem pl_54 : structPlaces Tryz.prog 54 = some #[(0, 1), (1, 1)] := by kernel_rfl
theorem bl_54 (ps : List (Nat × PV)) : evBuild Tryz.prog 54 ps = (fillP (plF [(0, 1), (1, 1)]) [.val (.slice none 0 0), .val (.int .i64 0)] ps).map .agg := bl_of ze_54 rfl pl_54 ps
theorem oz_54 : ofVal (.agg #[.slice none 0 0, .int .i64 0]) = .agg [.val (.slice none 0 0), .val (.int .i64 0)] := rfl
theorem ea_54 {Γ : Ctx} (s : AS) (ρ : Operand → PV) : evEff Tryz.prog Γ s ρ (.alloc 54) = some (.own s.nx 2 0 0, upd s.ob s.nx (some (54, 2, [.agg [.val (.slice none 0 0), .val (.int .i64 0)]])), s.nx + 1) := ea_of ze_54 (by kernel_rfl) rfl rfl s ρ
theorem bz_54 {Γ : Ctx} {ob : Objs} {ρ : Operand → PV} {ty : Nat} : evVal Tryz.prog Γ ob ρ ty (.build 54 #[]) = some (.agg [.val (.slice none 0 0), .val (.int .i64 0)]) := (show evBuild Tryz.prog 54 [] = some (.agg [.val (.slice none 0 0), .val (.int .i64 0)]) from by kernel_rfl)
theorem bs_54 : isByteSlice Tryz.prog 54 = false := by kernel_rfl
theorem is_54 : isStr Tryz.prog 54 = false := by kernel_rfl
theorem sz_60 : tySize Tryz.prog 60 = some 1 := by kernel_rfl
theorem ag_60 : tyAgg Tryz.prog 60 = some false := by kernel_rfl
theorem by_60 : tyBytes Tryz.prog 60 = some 8 := by kernel_rfl
theorem ze_60 : zeroOf Tryz.prog 60 = some (.int .u64 0) := by kernel_rfl
theorem un_60 : Tryz.prog.underlying 60 = some (.int .u64) := by kernel_rfl
theorem oz_60 : ofVal (.int .u64 0) = .val (.int .u64 0) := rfl
theorem ea_60 {Γ : Ctx} (s : AS) (ρ : Operand → PV) : evEff Tryz.prog Γ s ρ (.alloc 60) = some (.own s.nx 1 0 0, upd s.ob s.nx (some (60, 1, [.val (.int .u64 0)])), s.nx + 1) := ea_of ze_60 (by kernel_rfl) rfl rfl s ρ
theorem bs_60 : isByteSlice Tryz.prog 60 = false := by kernel_rfl
theorem is_60 : isStr Tryz.prog 60 = false := by kernel_rfl
theorem sz_64 : tySize Tryz.prog 64 = some 2 := by kernel_rfl
theorem ag_64 : tyAgg Tryz.prog 64 = some true := by kernel_rfl
theorem by_64 : tyBytes Tryz.prog 64 = some 16 := by kernel_rfl
theorem ze_64 : zeroOf Tryz.prog 64 = some (.agg #[.int .i64 0, .int .i64 0]) := by kernel_rfl
theorem un_64 : Tryz.prog.underlying 64 = some (.array 2 3) := by kernel_rfl
theorem ixa_64 {o sz j f : Nat} {i : Int} (h0 : 0 ≤ i) (h1 : i < 2) : evIndexAddr Tryz.prog 64 (.own o sz j f) i = some (.own o sz j (f + i.toNat)) := by rw [ixa_of un_64 sz_3 h0 h1, Nat.mul_one]
theorem ixp_64 {k : Bool} {x : PV} {f : Nat} {i : Int} (h0 : 0 ≤ i) (h1 : i < 2) : evIndexAddr Tryz.prog 64 (.ptr k x f) i = some (.ptr k x (f + i.toNat)) := by rw [ixap_of un_64 sz_3 h0 h1, Nat.mul_one]
theorem bl_64 (ps : List (Nat × PV)) : evBuild Tryz.prog 64 ps = (fillP (plF [(0, 1), (1, 1)]) [.val (.int .i64 0), .val (.int .i64 0)] ps).map .agg := bla_of ze_64 rfl (by kernel_rfl) (pl := #[(0, 1), (1, 1)]) (by kernel_rfl) ps
theorem oz_64 : ofVal (.agg #[.int .i64 0, .int .i64 0]) = .agg [.val (.int .i64 0), .val (.int .i64 0)] := rfl
theorem ea_64 {Γ : Ctx} (s : AS) (ρ : Operand → PV) : evEff Tryz.prog Γ s ρ (.alloc 64) = some (.own s.nx 2 0 0, upd s.ob s.nx (some (64, 2, [.agg [.val (.int .i64 0), .val (.int .i64 0)]])), s.nx + 1) := ea_of ze_64 (by kernel_rfl) rfl rfl s ρ
theorem bs_64 : isByteSlice Tryz.prog 64 = false := by kernel_rfl
theorem is_64 : isStr Tryz.prog 64 = false := by kernel_rfl
theorem sz_79 : tySize Tryz.prog 79 = some 1 := by kernel_rfl
theorem ag_79 : tyAgg Tryz.prog 79 = some false := by kernel_rfl
theorem by_79 : tyBytes Tryz.prog 79 = some 8 := by kernel_rfl
theorem ze_79 : zeroOf Tryz.prog 79 = some (.int .i64 0) := by kernel_rfl
theorem un_79 : Tryz.prog.underlying 79 = some (.int .i64) := by kernel_rfl
theorem oz_79 : ofVal (.int .i64 0) = .val (.int .i64 0) := rfl
theorem ea_79 {Γ : Ctx} (s : AS) (ρ : Operand → PV) : evEff Tryz.prog Γ s ρ (.alloc 79) = some (.own s.nx 1 0 0, upd s.ob s.nx (some (79, 1, [.val (.int .i64 0)])), s.nx + 1) := ea_of ze_79 (by kernel_rfl) rfl rfl s ρ
theorem bs_79 : isByteSlice Tryz.prog 79 = false := by kernel_rfl
theorem is_79 : isStr Tryz.prog 79 = false := by kernel_rfl
theorem sz_88 : tySize Tryz.prog 88 = some 1 := by kernel_rfl
theorem ag_88 : tyAgg Tryz.prog 88 = some false := by kernel_rfl
theorem by_88 : tyBytes Tryz.prog 88 = some 4 := by kernel_rfl
theorem ze_88 : zeroOf Tryz.prog 88 = some (.int .u32 0) := by kernel_rfl
theorem un_88 : Tryz.prog.underlying 88 = some (.int .u32) := by kernel_rfl
theorem oz_88 : ofVal (.int .u32 0) = .val (.int .u32 0) := rfl
theorem ea_88 {Γ : Ctx} (s : AS) (ρ : Operand → PV) : evEff Tryz.prog Γ s ρ (.alloc 88) = some (.own s.nx 1 0 0, upd s.ob s.nx (some (88, 1, [.val (.int .u32 0)])), s.nx + 1) := ea_of ze_88 (by kernel_rfl) rfl rfl s ρ
theorem bs_88 : isByteSlice Tryz.prog 88 = false := by kernel_rfl
theorem is_88 : isStr Tryz.prog 88 = false := by kernel_rfl
theorem sz_90 : tySize Tryz.prog 90 = some 1 := by kernel_rfl
theorem ag_90 : tyAgg Tryz.prog 90 = some false := by kernel_rfl
theorem by_90 : tyBytes Tryz.prog 90 = some 8 := by kernel_rfl
theorem ze_90 : zeroOf Tryz.prog 90 = some (.int .u64 0) := by kernel_rfl
theorem un_90 : Tryz.prog.underlying 90 = some (.int .u64) := by kernel_rfl
theorem oz_90 : ofVal (.int .u64 0) = .val (.int .u64 0) := rfl
theorem ea_90 {Γ : Ctx} (s : AS) (ρ : Operand → PV) : evEff Tryz.prog Γ s ρ (.alloc 90) = some (.own s.nx 1 0 0, upd s.ob s.nx (some (90, 1, [.val (.int .u64 0)])), s.nx + 1) := ea_of ze_90 (by kernel_rfl) rfl rfl s ρ
theorem bs_90 : isByteSlice Tryz.prog 90 = false := by kernel_rfl
theorem is_90 : isStr Tryz.prog 90 = false := by kernel_rfl
theorem sz_105 : tySize Tryz.prog 105 = some 1 := by kernel_rfl
theorem ag_105 : tyAgg Tryz.prog 105 = some false := by kernel_rfl
theorem by_105 : tyBytes Tryz.prog 105 = some 8 := by kernel_rfl
theorem ze_105 : zeroOf Tryz.prog 105 = some (.int .u64 0) := by kernel_rfl
theorem un_105 : Tryz.prog.underlying 105 = some (.int .u64) := by kernel_rfl
theorem oz_105 : ofVal (.int .u64 0) = .val (.int .u64 0) := rfl
theorem ea_105 {Γ : Ctx} (s : AS) (ρ : Operand → PV) : evEff Tryz.prog Γ s ρ (.alloc 105) = some (.own s.nx 1 0 0, upd s.ob s.nx (some (105, 1, [.val (.int .u64 0)])), s.nx + 1) := ea_of ze_105 (by kernel_rfl) rfl rfl s ρ
theorem bs_105 : isByteSlice Tryz.prog 105 = false := by kernel_rfl
theorem is_105 : isStr Tryz.prog 105 = false := by kernel_rfl
theorem sz_138 : tySize Tryz.prog 138 = some 24 := by kernel_rfl
theorem ag_138 : tyAgg Tryz.prog 138 = some true := by kernel_rfl
theorem by_138 : tyBytes Tryz.prog 138 = some 24 := by kernel_rfl
theorem ze_138 : zeroOf Tryz.prog 138 = some (.agg #[.int .u8 0, .int .u8 0, .int .u8 0, .int .u8 0, .int .u8 0, .int .u8 0, .int .u8 0, .int .u8 0, .int .u8 0, .int .u8 0, .int .u8 0, .int .u8 0, .int .u8 0, .int .u8 0, .int .u8 0, .int .u8 0, .int .u8 0, .int .u8 0, .int .u8 0, .int .u8 0, .int .u8 0, .int .u8 0, .int .u8 0, .int .u8 0]) := by kernel_rfl
theorem un_138 : Tryz.prog.underlying 138 = some (.array 24 5) := by kernel_rfl
theorem oz_138 : ofVal (.agg #[.int .u8 0, .int .u8 0, .int .u8 0, .int .u8 0, .int .u8 0, .int .u8 0, .int .u8 0, .int .u8 0, .int .u8 0, .int .u8 0, .int .u8 0, .int .u8 0, .int .u8 0, .int .u8 0, .int .u8 0, .int .u8 0, .int .u8 0, .int .u8 0, .int .u8 0, .int .u8 0, .int .u8 0, .int .u8 0, .int .u8 0, .int .u8 0]) = .agg [.val (.int .u8 0), .val (.int .u8 0), .val (.int .u8 0), .val (.int .u8 0), .val (.int .u8 0), .val (.int .u8 0), .val (.int .u8 0), .val (.int .u8 0), .val (.int .u8 0), .val (.int .u8 0), .val (.int .u8 0), .val (.int .u8 0), .val (.int .u8 0), .val (.int .u8 0), .val (.int .u8 0), .val (.int .u8 0), .val (.int .u8 0), .val (.int .u8 0), .val (.int .u8 0), .val (.int .u8 0), .val (.int .u8 0), .val (.int .u8 0), .val (.int .u8 0), .val (.int .u8 0)] := rfl
theorem ea_138 {Γ : Ctx} (s : AS) (ρ : Operand → PV) : evEff Tryz.prog Γ s ρ (.alloc 138) = some (.own s.nx 24 0 0, upd s.ob s.nx (some (138, 24, [.agg [.val (.int .u8 0), .val (.int .u8 0), .val (.int .u8 0), .val (.int .u8 0), .val (.int .u8 0), .val (.int .u8 0), .val (.int .u8 0), .val (.int .u8 0), .val (.int .u8 0), .val (.int .u8 0), .val (.int .u8 0), .val (.int .u8 0), .val (.int .u8 0), .val (.int .u8 0), .val (.int .u8 0), .val (.int .u8 0), .val (.int .u8 0), .val (.int .u8 0), .val (.int .u8 0), .val (.int .u8 0), .val (.int .u8 0), .val (.int .u8 0), .val (.int .u8 0), .val (.int .u8 0)]])), s.nx + 1) := ea_of ze_138 (by kernel_rfl) rfl rfl s ρ
theorem bs_138 : isByteSlice Tryz.prog 138 = false := by kernel_rfl
theorem is_138 : isStr Tryz.prog 138 = false := by kernel_rfl
theorem sz_143 : tySize Tryz.prog 143 = some 2 := by kernel_rfl
theorem ag_143 : tyAgg Tryz.prog 143 = some true := by kernel_rfl
theorem by_143 : tyBytes Tryz.prog 143 = some 2 := by kernel_rfl
theorem ze_143 : zeroOf Tryz.prog 143 = some (.agg #[.int .u8 0, .int .u8 0]) := by kernel_rfl
theorem fo_143_0 : fieldOff Tryz.prog 143 0 = some 0 := by kernel_rfl
theorem fo_143_1 : fieldOff Tryz.prog 143 1 = some 1 := by kernel_rfl
theorem pl_143 : structPlaces Tryz.prog 143 = some #[(0, 1), (1, 1)] := by kernel_rfl
theorem bl_143 (ps : List (Nat × PV)) : evBuild Tryz.prog 143 ps = (fillP (plF [(0, 1), (1, 1)]) [.val (.int .u8 0), .val (.int .u8 0)] ps).map .agg := bl_of ze_143 rfl pl_143 ps
theorem oz_143 : ofVal (.agg #[.int .u8 0, .int .u8 0]) = .agg [.val (.int .u8 0), .val (.int .u8 0)] := rfl
theorem ea_143 {Γ : Ctx} (s : AS) (ρ : Operand → PV) : evEff Tryz.prog Γ s ρ (.alloc 143) = some (.own s.nx 2 0 0, upd s.ob s.nx (some (143, 2, [.agg [.val (.int .u8 0), .val (.int .u8 0)]])), s.nx + 1) := ea_of ze_143 (by kernel_rfl) rfl rfl s ρ
theorem bz_143 {Γ : Ctx} {ob : Objs} {ρ : Operand → PV} {ty : Nat} : evVal Tryz.prog Γ ob ρ ty (.build 143 #[]) = some (.agg [.val (.int .u8 0), .val (.int .u8 0)]) := (show evBuild Tryz.prog 143 [] = some (.agg [.val (.int .u8 0), .val (.int .u8 0)]) from by kernel_rfl)
theorem bs_143 : isByteSlice Tryz.prog 143 = false := by kernel_rfl
theorem is_143 : isStr Tryz.prog 143 = false := by kernel_rfl
theorem sz_144 : tySize Tryz.prog 144 = some 2 := by kernel_rfl
theorem ag_144 : tyAgg Tryz.prog 144 = some true := by kernel_rfl
theorem by_144 : tyBytes Tryz.prog 144 = some 2 := by kernel_rfl
theorem ze_144 : zeroOf Tryz.prog 144 = some (.agg #[.int .u8 0, .int .u8 0]) := by kernel_rfl
theorem fo_144_0 : fieldOff Tryz.prog 144 0 = some 0 := by kernel_rfl
theorem fo_144_1 : fieldOff Tryz.prog 144 1 = some 1 := by kernel_rfl
theorem pl_144 : structPlaces Tryz.prog 144 = some #[(0, 1), (1, 1)] := by kernel_rfl
theorem bl_144 (ps : List (Nat × PV)) : evBuild Tryz.prog 144 ps = (fillP (plF [(0, 1), (1, 1)]) [.val (.int .u8 0), .val (.int .u8 0)] ps).map .agg := bl_of ze_144 rfl pl_144 ps
theorem oz_144 : ofVal (.agg #[.int .u8 0, .int .u8 0]) = .agg [.val (.int .u8 0), .val (.int .u8 0)] := rfl
theorem ea_144 {Γ : Ctx} (s : AS) (ρ : Operand → PV) : evEff Tryz.prog Γ s ρ (.alloc 144) = some (.own s.nx 2 0 0, upd s.ob s.nx (some (144, 2, [.agg [.val (.int .u8 0), .val (.int .u8 0)]])), s.nx + 1) := ea_of ze_144 (by kernel_rfl) rfl rfl s ρ
theorem bz_144 {Γ : Ctx} {ob : Objs} {ρ : Operand → PV} {ty : Nat} : evVal Tryz.prog Γ ob ρ ty (.build 144 #[]) = some (.agg [.val (.int .u8 0), .val (.int .u8 0)]) := (show evBuild Tryz.prog 144 [] = some (.agg [.val (.int .u8 0), .val (.int .u8 0)]) from by kernel_rfl)
theorem bs_144 : isByteSlice Tryz.prog 144 = false := by kernel_rfl
theorem is_144 : isStr Tryz.prog 144 = false := by kernel_rfl
theorem sz_145 : tySize Tryz.prog 145 = some 32 := by kernel_rfl
theorem ag_145 : tyAgg Tryz.prog 145 = some true := by kernel_rfl
theorem by_145 : tyBytes Tryz.prog 145 = some 32 := by kernel_rfl
theorem ze_145 : zeroOf Tryz.prog 145 = some (.agg #[.int .u8 0, .int .u8 0, .int .u8 0, .int .u8 0, .int .u8 0, .int .u8 0, .int .u8 0, .int .u8 0, .int .u8 0, .int .u8 0, .int .u8 0, .int .u8 0, .int .u8 0, .int .u8 0, .int .u8 0, .int .u8 0, .int .u8 0, .int .u8 0, .int .u8 0, .int .u8 0, .int .u8 0, .int .u8 0, .int .u8 0, .int .u8 0, .int .u8 0, .int .u8 0, .int .u8 0, .int .u8 0, .int .u8 0, .int .u8 0, .int .u8 0, .int .u8 0]) := by kernel_rfl
theorem un_145 : Tryz.prog.underlying 145 = some (.array 16 144) := by kernel_rfl
theorem oz_145 : ofVal (.agg #[.int .u8 0, .int .u8 0, .int .u8 0, .int .u8 0, .int .u8 0, .int .u8 0, .int .u8 0, .int .u8 0, .int .u8 0, .int .u8 0, .int .u8 0, .int .u8 0, .int .u8 0, .int .u8 0, .int .u8 0, .int .u8 0, .int .u8 0, .int .u8 0, .int .u8 0, .int .u8 0, .int .u8 0, .int .u8 0, .int .u8 0, .int .u8 0, .int .u8 0, .int .u8 0, .int .u8 0, .int .u8 0, .int .u8 0, .int .u8 0, .int .u8 0, .int .u8 0]) = .agg [.val (.int .u8 0), .val (.int .u8 0), .val (.int .u8 0), .val (.int .u8 0), .val (.int .u8 0), .val (.int .u8 0), .val (.int .u8 0), .val (.int .u8 0), .val (.int .u8 0), .val (.int .u8 0), .val (.int .u8 0), .val (.int .u8 0), .val (.int .u8 0), .val (.int .u8 0), .val (.int .u8 0), .val (.int .u8 0), .val (.int .u8 0), .val (.int .u8 0), .val (.int .u8 0), .val (.int .u8 0), .val (.int .u8 0), .val (.int .u8 0), .val (.int .u8 0), .val (.int .u8 0), .val (.int .u8 0), .val (.int .u8 0), .val (.int .u8 0), .val (.int .u8 0), .val (.int .u8 0), .val (.int .u8 0), .val (.int .u8 0), .val (.int .u8 0)] := rfl
theorem ea_145 {Γ : Ctx} (s : AS) (ρ : Operand → PV) : evEff Tryz.prog Γ s ρ (.alloc 145) = some (.own s.nx 32 0 0, upd s.ob s.nx (some (145, 32, [.agg [.val (.int .u8 0), .val (.int .u8 0), .val (.int .u8 0), .val (.int .u8 0), .val (.int .u8 0), .val (.int .u8 0), .val (.int .u8 0), .val (.int .u8 0), .val (.int .u8 0), .val (.int .u8 0), .val (.int .u8 0), .val (.int .u8 0), .val (.int .u8 0), .val (.int .u8 0), .val (.int .u8 0), .val (.int .u8 0), .val (.int .u8 0), .val (.int .u8 0), .val (.int .u8 0), .val (.int .u8 0), .val (.int .u8 0), .val (.int .u8 0), .val (.int .u8 0), .val (.int .u8 0), .val (.int .u8 0), .val (.int .u8 0), .val (.int .u8 0), .val (.int .u8 0), .val (.int .u8 0), .val (.int .u8 0), .val (.int .u8 0), .val (.int .u8 0)]])), s.nx + 1) := ea_of ze_145 (by kernel_rfl) rfl rfl s ρ
theorem bs_145 : isByteSlice Tryz.prog 145 = false := by kernel_rfl
theorem is_145 : isStr Tryz.prog 145 = false := by kernel_rfl
theorem sz_150 : tySize Tryz.prog 150 = some 1 := by kernel_rfl
theorem ag_150 : tyAgg Tryz.prog 150 = some true := by kernel_rfl
theorem by_150 : tyBytes Tryz.prog 150 = some 16 := by kernel_rfl
theorem ze_150 : zeroOf Tryz.prog 150 = some (.agg #[.string ByteArray.empty]) := by kernel_rfl
theorem fo_150_0 : fieldOff Tryz.prog 150 0 = some 0 := by kernel_rfl
theorem pl_150 : structPlaces Tryz.prog 150 = some #[(0, 1)] := by kernel_rfl
theorem bl_150 (ps : List (Nat × PV)) : evBuild Tryz.prog 150 ps = (fillP (plF [(0, 1)]) [.val (.string ByteArray.empty)] ps).map .agg := bl_of ze_150 rfl pl_150 ps
theorem oz_150 : ofVal (.agg #[.string ByteArray.empty]) = .agg [.val (.string ByteArray.empty)] := rfl
theorem ea_150 {Γ : Ctx} (s : AS) (ρ : Operand → PV) : evEff Tryz.prog Γ s ρ (.alloc 150) = some (.own s.nx 1 0 0, upd s.ob s.nx (some (150, 1, [.agg [.val (.string ByteArray.empty)]])), s.nx + 1) := ea_of ze_150 (by kernel_rfl) rfl rfl s ρ
theorem bz_150 {Γ : Ctx} {ob : Objs} {ρ : Operand → PV} {ty : Nat} : evVal Tryz.prog Γ ob ρ ty (.build 150 #[]) = some (.agg [.val (.string ByteArray.empty)]) := (show evBuild Tryz.prog 150 [] = some (.agg [.val (.string ByteArray.empty)]) from by kernel_rfl)
theorem bs_150 : isByteSlice Tryz.prog 150 = false := by kernel_rfl
theorem is_150 : isStr Tryz.prog 150 = false := by kernel_rfl
theorem sz_151 : tySize Tryz.prog 151 = some 1 := by kernel_rfl
theorem ag_151 : tyAgg Tryz.prog 151 = some true := by kernel_rfl
theorem by_151 : tyBytes Tryz.prog 151 = some 16 := by kernel_rfl
theorem ze_151 : zeroOf Tryz.prog 151 = some (.agg #[.string ByteArray.empty]) := by kernel_rfl
theorem fo_151_0 : fieldOff Tryz.prog 151 0 = some 0 := by kernel_rfl
theorem pl_151 : structPlaces Tryz.prog 151 = some #[(0, 1)] := by kernel_rfl
theorem bl_151 (ps : List (Nat × PV)) : evBuild Tryz.prog 151 ps = (fillP (plF [(0, 1)]) [.val (.string ByteArray.empty)] ps).map .agg := bl_of ze_151 rfl pl_151 ps
theorem oz_151 : ofVal (.agg #[.string ByteArray.empty]) = .agg [.val (.string ByteArray.empty)] := rfl
theorem ea_151 {Γ : Ctx} (s : AS) (ρ : Operand → PV) : evEff Tryz.prog Γ s ρ (.alloc 151) = some (.own s.nx 1 0 0, upd s.ob s.nx (some (151, 1, [.agg [.val (.string ByteArray.empty)]])), s.nx + 1) := ea_of ze_151 (by kernel_rfl) rfl rfl s ρ
theorem bz_151 {Γ : Ctx} {ob : Objs} {ρ : Operand → PV} {ty : Nat} : evVal Tryz.prog Γ ob ρ ty (.build 151 #[]) = some (.agg [.val (.string ByteArray.empty)]) := (show evBuild Tryz.prog 151 [] = some (.agg [.val (.string ByteArray.empty)]) from by kernel_rfl)
theorem bs_151 : isByteSlice Tryz.prog 151 = false := by kernel_rfl
theorem is_151 : isStr Tryz.prog 151 = false := by kernel_rfl
theorem sz_153 : tySize Tryz.prog 153 = some 20 := by kernel_rfl
theorem ag_153 : tyAgg Tryz.prog 153 = some true := by kernel_rfl
theorem by_153 : tyBytes Tryz.prog 153 = some 160 := by kernel_rfl
theorem ze_153 : zeroOf Tryz.prog 153 = some (.agg #[.int .u64 0, .int .u64 0, .int .u64 0, .int .u64 0, .int .u64 0, .int .u64 0, .int .u64 0, .int .u64 0, .int .u64 0, .int .u64 0, .int .u64 0, .int .u64 0, .int .u64 0, .int .u64 0, .int .u64 0, .int .u64 0, .int .u64 0, .int .u64 0, .int .u64 0, .int .u64 0]) := by kernel_rfl
theorem un_153 : Tryz.prog.underlying 153 = some (.array 20 90) := by kernel_rfl
theorem oz_153 : ofVal (.agg #[.int .u64 0, .int .u64 0, .int .u64 0, .int .u64 0, .int .u64 0, .int .u64 0, .int .u64 0, .int .u64 0, .int .u64 0, .int .u64 0, .int .u64 0, .int .u64 0, .int .u64 0, .int .u64 0, .int .u64 0, .int .u64 0, .int .u64 0, .int .u64 0, .int .u64 0, .int .u64 0]) = .agg [.val (.int .u64 0), .val (.int .u64 0), .val (.int .u64 0), .val (.int .u64 0), .val (.int .u64 0), .val (.int .u64 0), .val (.int .u64 0), .val (.int .u64 0), .val (.int .u64 0), .val (.int .u64 0), .val (.int .u64 0), .val (.int .u64 0), .val (.int .u64 0), .val (.int .u64 0), .val (.int .u64 0), .val (.int .u64 0), .val (.int .u64 0), .val (.int .u64 0), .val (.int .u64 0), .val (.int .u64 0)] := rfl
theorem ea_153 {Γ : Ctx} (s : AS) (ρ : Operand → PV) : evEff Tryz.prog Γ s ρ (.alloc 153) = some (.own s.nx 20 0 0, upd s.ob s.nx (some (153, 20, [.agg [.val (.int .u64 0), .val (.int .u64 0), .val (.int .u64 0), .val (.int .u64 0), .val (.int .u64 0), .val (.int .u64 0), .val (.int .u64 0), .val (.int .u64 0), .val (.int .u64 0), .val (.int .u64 0), .val (.int .u64 0), .val (.int .u64 0), .val (.int .u64 0), .val (.int .u64 0), .val (.int .u64 0), .val (.int .u64 0), .val (.int .u64 0), .val (.int .u64 0), .val (.int .u64 0), .val (.int .u64 0)]])), s.nx + 1) := ea_of ze_153 (by kernel_rfl) rfl rfl s ρ
theorem bs_153 : isByteSlice Tryz.prog 153 = false := by kernel_rfl
theorem is_153 : isStr Tryz.prog 153 = false := by kernel_rfl
theorem sz_155 : tySize Tryz.prog 155 = some 32 := by kernel_rfl
theorem ag_155 : tyAgg Tryz.prog 155 = some true := by kernel_rfl
theorem by_155 : tyBytes Tryz.prog 155 = some 32 := by kernel_rfl
theorem ze_155 : zeroOf Tryz.prog 155 = some (.agg #[.int .u8 0, .int .u8 0, .int .u8 0, .int .u8 0, .int .u8 0, .int .u8 0, .int .u8 0, .int .u8 0, .int .u8 0, .int .u8 0, .int .u8 0, .int .u8 0, .int .u8 0, .int .u8 0, .int .u8 0, .int .u8 0, .int .u8 0, .int .u8 0, .int .u8 0, .int .u8 0, .int .u8 0, .int .u8 0, .int .u8 0, .int .u8 0, .int .u8 0, .int .u8 0, .int .u8 0, .int .u8 0, .int .u8 0, .int .u8 0, .int .u8 0, .int .u8 0]) := by kernel_rfl
theorem un_155 : Tryz.prog.underlying 155 = some (.array 32 5) := by kernel_rfl
theorem oz_155 : ofVal (.agg #[.int .u8 0, .int .u8 0, .int .u8 0, .int .u8 0, .int .u8 0, .int .u8 0, .int .u8 0, .int .u8 0, .int .u8 0, .int .u8 0, .int .u8 0, .int .u8 0, .int .u8 0, .int .u8 0, .int .u8 0, .int .u8 0, .int .u8 0, .int .u8 0, .int .u8 0, .int .u8 0, .int .u8 0, .int .u8 0, .int .u8 0, .int .u8 0, .int .u8 0, .int .u8 0, .int .u8 0, .int .u8 0, .int .u8 0, .int .u8 0, .int .u8 0, .int .u8 0]) = .agg [.val (.int .u8 0), .val (.int .u8 0), .val (.int .u8 0), .val (.int .u8 0), .val (.int .u8 0), .val (.int .u8 0), .val (.int .u8 0), .val (.int .u8 0), .val (.int .u8 0), .val (.int .u8 0), .val (.int .u8 0), .val (.int .u8 0), .val (.int .u8 0), .val (.int .u8 0), .val (.int .u8 0), .val (.int .u8 0), .val (.int .u8 0), .val (.int .u8 0), .val (.int .u8 0), .val (.int .u8 0), .val (.int .u8 0), .val (.int .u8 0), .val (.int .u8 0), .val (.int .u8 0), .val (.int .u8 0), .val (.int .u8 0), .val (.int .u8 0), .val (.int .u8 0), .val (.int .u8 0), .val (.int .u8 0), .val (.int .u8 0), .val (.int .u8 0)] := rfl
theorem ea_155 {Γ : Ctx} (s : AS) (ρ : Operand → PV) : evEff Tryz.prog Γ s ρ (.alloc 155) = some (.own s.nx 32 0 0, upd s.ob s.nx (some (155, 32, [.agg [.val (.int .u8 0), .val (.int .u8 0), .val (.int .u8 0), .val (.int .u8 0), .val (.int .u8 0), .val (.int .u8 0), .val (.int .u8 0), .val (.int .u8 0), .val (.int .u8 0), .val (.int .u8 0), .val (.int .u8 0), .val (.int .u8 0), .val (.int .u8 0), .val (.int .u8 0), .val (.int .u8 0), .val (.int .u8 0), .val (.int .u8 0), .val (.int .u8 0), .val (.int .u8 0), .val (.int .u8 0), .val (.int .u8 0), .val (.int .u8 0), .val (.int .u8 0), .val (.int .u8 0), .val (.int .u8 0), .val (.int .u8 0), .val (.int .u8 0), .val (.int .u8 0), .val (.int .u8 0), .val (.int .u8 0), .val (.int .u8 0), .val (.int .u8 0)]])), s.nx + 1) := ea_of ze_155 (by kernel_rfl) rfl rfl s ρ
theorem bs_155 : isByteSlice Tryz.prog 155 = false := by kernel_rfl
theorem is_155 : isStr Tryz.prog 155 = false := by kernel_rfl
theorem sz_156 : tySize Tryz.prog 156 = some 64 := by kernel_rfl
theorem ag_156 : tyAgg Tryz.prog 156 = some true := by kernel_rfl
theorem by_156 : tyBytes Tryz.prog 156 = some 64 := by kernel_rfl
theorem ze_156 : zeroOf Tryz.prog 156 = some (.agg #[.int .u8 0, .int .u8 0, .int .u8 0, .int .u8 0, .int .u8 0, .int .u8 0, .int .u8 0, .int .u8 0, .int .u8 0, .int .u8 0, .int .u8 0, .int .u8 0, .int .u8 0, .int .u8 0, .int .u8 0, .int .u8 0, .int .u8 0, .int .u8 0, .int .u8 0, .int .u8 0, .int .u8 0, .int .u8 0, .int .u8 0, .int .u8 0, .int .u8 0, .int .u8 0, .int .u8 0, .int .u8 0, .int .u8 0, .int .u8 0, .int .u8 0, .int .u8 0, .int .u8 0, .int .u8 0, .int .u8 0, .int .u8 0, .int .u8 0, .int .u8 0, .int .u8 0, .int .u8 0, .int .u8 0, .int .u8 0, .int .u8 0, .int .u8 0, .int .u8 0, .int .u8 0, .int .u8 0, .int .u8 0, .int .u8 0, .int .u8 0, .int .u8 0, .int .u8 0, .int .u8 0, .int .u8 0, .int .u8 0, .int .u8 0, .int .u8 0, .int .u8 0, .int .u8 0, .int .u8 0, .int .u8 0, .int .u8 0, .int .u8 0, .int .u8 0]) := by kernel_rfl
theorem un_156 : Tryz.prog.underlying 156 = some (.array 64 5) := by kernel_rfl
theorem oz_156 : ofVal (.agg #[.int .u8 0, .int .u8 0, .int .u8 0, .int .u8 0, .int .u8 0, .int .u8 0, .int .u8 0, .int .u8 0, .int .u8 0, .int .u8 0, .int .u8 0, .int .u8 0, .int .u8 0, .int .u8 0, .int .u8 0, .int .u8 0, .int .u8 0, .int .u8 0, .int .u8 0, .int .u8 0, .int .u8 0, .int .u8 0, .int .u8 0, .int .u8 0, .int .u8 0, .int .u8 0, .int .u8 0, .int .u8 0, .int .u8 0, .int .u8 0, .int .u8 0, .int .u8 0, .int .u8 0, .int .u8 0, .int .u8 0, .int .u8 0, .int .u8 0, .int .u8 0, .int .u8 0, .int .u8 0, .int .u8 0, .int .u8 0, .int .u8 0, .int .u8 0, .int .u8 0, .int .u8 0, .int .u8 0, .int .u8 0, .int .u8 0, .int .u8 0, .int .u8 0, .int .u8 0, .int .u8 0, .int .u8 0, .int .u8 0, .int .u8 0, .int .u8 0, .int .u8 0, .int .u8 0, .int .u8 0, .int .u8 0, .int .u8 0, .int .u8 0, .int .u8 0]) = .agg [.val (.int .u8 0), .val (.int .u8 0), .val (.int .u8 0), .val (.int .u8 0), .val (.int .u8 0), .val (.int .u8 0), .val (.int .u8 0), .val (.int .u8 0), .val (.int .u8 0), .val (.int .u8 0), .val (.int .u8 0), .val (.int .u8 0), .val (.int .u8 0), .val (.int .u8 0), .val (.int .u8 0), .val (.int .u8 0), .val (.int .u8 0), .val (.int .u8 0), .val (.int .u8 0), .val (.int .u8 0), .val (.int .u8 0), .val (.int .u8 0), .val (.int .u8 0), .val (.int .u8 0), .val (.int .u8 0), .val (.int .u8 0), .val (.int .u8 0), .val (.int .u8 0), .val (.int .u8 0), .val (.int .u8 0), .val (.int .u8 0), .val (.int .u8 0), .val (.int .u8 0), .val (.int .u8 0), .val (.int .u8 0), .val (.int .u8 0), .val (.int .u8 0), .val (.int .u8 0), .val (.int .u8 0), .val (.int .u8 0), .val (.int .u8 0), .val (.int .u8 0), .val (.int .u8 0), .val (.int .u8 0), .val (.int .u8 0), .val (.int .u8 0), .val (.int .u8 0), .val (.int .u8 0), .val (.int .u8 0), .val (.int .u8 0), .val (.int .u8 0), .val (.int .u8 0), .val (.int .u8 0), .val (.int .u8 0), .val (.int .u8 0), .val (.int .u8 0), .val (.int .u8 0), .val (.int .u8 0), .val (.int .u8 0), .val (.int .u8 0), .val (.int .u8 0), .val (.int .u8 0), .val (.int .u8 0), .val (.int .u8 0)] := rfl
theorem ea_156 {Γ : Ctx} (s : AS) (ρ : Operand → PV) : evEff Tryz.prog Γ s ρ (.alloc 156) = some (.own s.nx 64 0 0, upd s.ob s.nx (some (156, 64, [.agg [.val (.int .u8 0), .val (.int .u8 0), .val (.int .u8 0), .val (.int .u8 0), .val (.int .u8 0), .val (.int .u8 0), .val (.int .u8 0), .val (.int .u8 0), .val (.int .u8 0), .val (.int .u8 0), .val (.int .u8 0), .val (.int .u8 0), .val (.int .u8 0), .val (.int .u8 0), .val (.int .u8 0), .val (.int .u8 0), .val (.int .u8 0), .val (.int .u8 0), .val (.int .u8 0), .val (.int .u8 0), .val (.int .u8 0), .val (.int .u8 0), .val (.int .u8 0), .val (.int .u8 0), .val (.int .u8 0), .val (.int .u8 0), .val (.int .u8 0), .val (.int .u8 0), .val (.int .u8 0), .val (.int .u8 0), .val (.int .u8 0), .val (.int .u8 0), .val (.int .u8 0), .val (.int .u8 0), .val (.int .u8 0), .val (.int .u8 0), .val (.int .u8 0), .val (.int .u8 0), .val (.int .u8 0), .val (.int .u8 0), .val (.int .u8 0), .val (.int .u8 0), .val (.int .u8 0), .val (.int .u8 0), .val (.int .u8 0), .val (.int .u8 0), .val (.int .u8 0), .val (.int .u8 0), .val (.int .u8 0), .val (.int .u8 0), .val (.int .u8 0), .val (.int .u8 0), .val (.int .u8 0), .val (.int .u8 0), .val (.int .u8 0), .val (.int .u8 0), .val (.int .u8 0), .val (.int .u8 0), .val (.int .u8 0), .val (.int .u8 0), .val (.int .u8 0), .val (.int .u8 0), .val (.int .u8 0), .val (.int .u8 0)]])), s.nx + 1) := ea_of ze_156 (by kernel_rfl) rfl rfl s ρ
theorem bs_156 : isByteSlice Tryz.prog 156 = false := by kernel_rfl
theorem is_156 : isStr Tryz.prog 156 = false := by kernel_rfl
theorem sz_22 : tySize Tryz.prog 22 = some 1 := by kernel_rfl
theorem ag_22 : tyAgg Tryz.prog 22 = some false := by kernel_rfl
theorem by_22 : tyBytes Tryz.prog 22 = some 24 := by kernel_rfl
theorem ze_22 : zeroOf Tryz.prog 22 = some (.slice none 0 0) := by kernel_rfl
theorem un_22 : Tryz.prog.underlying 22 = some (.slice 5) := by kernel_rfl
theorem el_22 : tyElem Tryz.prog 22 = some 5 := by kernel_rfl
theorem ix_22 {k : Bool} {es : List PV} {i : Int} (h0 : 0 ≤ i) (h1 : i < (es.length : Int)) : evIndexAddr Tryz.prog 22 (.lst k 1 es) i = some (.ptr k ((es[i.toNat]?).getD .dead) 0) := ix_lst un_22 sz_5 h0 h1
theorem ixr_22 {o j n : Nat} {i : Int} (h0 : 0 ≤ i) (h1 : i < (n : Int)) : evIndexAddr Tryz.prog 22 (.row o 1 j n) i = some (.own o 1 (j + i.toNat) 0) := ix_row un_22 sz_5 h0 h1
theorem sl_22 {k : Bool} {es : List PV} {lo hi : Option Int} (h0 : 0 ≤ lo.getD 0) (h1 : lo.getD 0 ≤ hi.getD es.length) (h2 : hi.getD es.length ≤ es.length) : evSlice Tryz.prog 22 (.lst k 1 es) lo hi = some (.lst k 1 ((es.drop (lo.getD 0).toNat).take ((hi.getD es.length).toNat - (lo.getD 0).toNat))) := sl_lst un_22 sz_5 h0 h1 h2
theorem slr_22 {o i n : Nat} {lo hi : Option Int} (h0 : 0 ≤ lo.getD 0) (h1 : lo.getD 0 < hi.getD n) (h2 : hi.getD n ≤ n) : evSlice Tryz.prog 22 (.row o 1 i n) lo hi = some (.row o 1 (i + (lo.getD 0).toNat) ((hi.getD n).toNat - (lo.getD 0).toNat)) := sl_rowlt un_22 sz_5 h0 h1 h2
theorem sle_22 {o i n : Nat} {lo hi : Option Int} (h0 : 0 ≤ lo.getD 0) (h1 : lo.getD 0 = hi.getD n) (h2 : hi.getD n ≤ n) : evSlice Tryz.prog 22 (.row o 1 i n) lo hi = some (.lst true 1 []) := sl_roweq un_22 sz_5 h0 h1 h2
theorem lpl_22 {ty sz : Nat} {k : Bool} {es : List PV} : lenP Tryz.prog 22 ty (.lst k sz es) = some (.val (.int .i64 es.length)) := lp_lst el_22
theorem lpr_22 {ty o sz i n : Nat} : lenP Tryz.prog 22 ty (.row o sz i n) = some (.val (.int .i64 n)) := lp_row el_22
theorem lpn_22 {ty : Nat} : lenP Tryz.prog 22 ty (.val (.slice none 0 0)) = some (.val (.int .i64 0)) := lp_nil un_22
theorem oz_22 : ofVal (.slice none 0 0) = .val (.slice none 0 0) := rfl
theorem ea_22 {Γ : Ctx} (s : AS) (ρ : Operand → PV) : evEff Tryz.prog Γ s ρ (.alloc 22) = some (.own s.nx 1 0 0, upd s.ob s.nx (some (22, 1, [.val (.slice none 0 0)])), s.nx + 1) := ea_of ze_22 (by kernel_rfl) rfl rfl s ρ
theorem em_22 {Γ : Ctx} (s : AS) (ρ : Operand → PV) (l c : Operand) : evEff Tryz.prog Γ s ρ (.makeSlice 22 l c) = mkEv 5 1 1 (.int .u8 0) s (ρ l) (ρ c) := em_of el_22 ze_5 sz_5 by_5 (by kernel_rfl) rfl s ρ l c
theorem eap_22 {Γ : Ctx} (s : AS) (ρ : Operand → PV) (x y : Operand) : evEff Tryz.prog Γ s ρ (.call { callee := .builtin .append, args := #[x, y], argTypes := #[22, 22] }) = apEv 5 1 1 s.nx s.ob (ρ x) (obOf s.ob (ρ x)) (sliceEs s.ob 1 (ρ y)) := eap_of el_22 ze_5 sz_5 by_5 (by decide) rfl s ρ x y
theorem ecp_22 {Γ : Ctx} (s : AS) (ρ : Operand → PV) (x y : Operand) (t' : Nat) : evEff Tryz.prog Γ s ρ (.call { callee := .builtin .copy, args := #[x, y], argTypes := #[22, t'] }) = cpX 1 s.nx s.ob (ρ x) (obOf s.ob (ρ x)) (srcEs s.ob 1 (ρ y)) := ecp_of el_22 sz_5 s ρ x y t'
theorem bs_22 : isByteSlice Tryz.prog 22 = true := by kernel_rfl
theorem is_22 : isStr Tryz.prog 22 = false := by kernel_rfl
theorem sz_23 : tySize Tryz.prog 23 = some 1 := by kernel_rfl
theorem ag_23 : tyAgg Tryz.prog 23 = some false := by kernel_rfl
theorem by_23 : tyBytes Tryz.prog 23 = some 24 := by kernel_rfl
theorem ze_23 : zeroOf Tryz.prog 23 = some (.slice none 0 0) := by kernel_rfl
theorem un_23 : Tryz.prog.underlying 23 = some (.slice 39) := by kernel_rfl
theorem el_23 : tyElem Tryz.prog 23 = some 39 := by kernel_rfl
theorem ix_23 {k : Bool} {es : List PV} {i : Int} (h0 : 0 ≤ i) (h1 : i < (es.length : Int)) : evIndexAddr Tryz.prog 23 (.lst k 2 es) i = some (.ptr k ((es[i.toNat]?).getD .dead) 0) := ix_lst un_23 sz_39 h0 h1
theorem ixr_23 {o j n : Nat} {i : Int} (h0 : 0 ≤ i) (h1 : i < (n : Int)) : evIndexAddr Tryz.prog 23 (.row o 2 j n) i = some (.own o 2 (j + i.toNat) 0) := ix_row un_23 sz_39 h0 h1
theorem sl_23 {k : Bool} {es : List PV} {lo hi : Option Int} (h0 : 0 ≤ lo.getD 0) (h1 : lo.getD 0 ≤ hi.getD es.length) (h2 : hi.getD es.length ≤ es.length) : evSlice Tryz.prog 23 (.lst k 2 es) lo hi = some (.lst k 2 ((es.drop (lo.getD 0).toNat).take ((hi.getD es.length).toNat - (lo.getD 0).toNat))) := sl_lst un_23 sz_39 h0 h1 h2
theorem slr_23 {o i n : Nat} {lo hi : Option Int} (h0 : 0 ≤ lo.getD 0) (h1 : lo.getD 0 < hi.getD n) (h2 : hi.getD n ≤ n) : evSlice Tryz.prog 23 (.row o 2 i n) lo hi = some (.row o 2 (i + (lo.getD 0).toNat) ((hi.getD n).toNat - (lo.getD 0).toNat)) := sl_rowlt un_23 sz_39 h0 h1 h2
theorem sle_23 {o i n : Nat} {lo hi : Option Int} (h0 : 0 ≤ lo.getD 0) (h1 : lo.getD 0 = hi.getD n) (h2 : hi.getD n ≤ n) : evSlice Tryz.prog 23 (.row o 2 i n) lo hi = some (.lst true 2 []) := sl_roweq un_23 sz_39 h0 h1 h2
theorem lpl_23 {ty sz : Nat} {k : Bool} {es : List PV} : lenP Tryz.prog 23 ty (.lst k sz es) = some (.val (.int .i64 es.length)) := lp_lst el_23
theorem lpr_23 {ty o sz i n : Nat} : lenP Tryz.prog 23 ty (.row o sz i n) = some (.val (.int .i64 n)) := lp_row el_23
theorem lpn_23 {ty : Nat} : lenP Tryz.prog 23 ty (.val (.slice none 0 0)) = some (.val (.int .i64 0)) := lp_nil un_23
theorem oz_23 : ofVal (.slice none 0 0) = .val (.slice none 0 0) := rfl
theorem ea_23 {Γ : Ctx} (s : AS) (ρ : Operand → PV) : evEff Tryz.prog Γ s ρ (.alloc 23) = some (.own s.nx 1 0 0, upd s.ob s.nx (some (23, 1, [.val (.slice none 0 0)])), s.nx + 1) := ea_of ze_23 (by kernel_rfl) rfl rfl s ρ
theorem em_23 {Γ : Ctx} (s : AS) (ρ : Operand → PV) (l c : Operand) : evEff Tryz.prog Γ s ρ (.makeSlice 23 l c) = mkEv 39 2 24 (.agg #[.string ByteArray.empty, .int .i64 0]) s (ρ l) (ρ c) := em_of el_23 ze_39 sz_39 by_39 (by kernel_rfl) rfl s ρ l c
theorem eap_23 {Γ : Ctx} (s : AS) (ρ : Operand → PV) (x y : Operand) : evEff Tryz.prog Γ s ρ (.call { callee := .builtin .append, args := #[x, y], argTypes := #[23, 23] }) = apEv 39 2 24 s.nx s.ob (ρ x) (obOf s.ob (ρ x)) (sliceEs s.ob 2 (ρ y)) := eap_of el_23 ze_39 sz_39 by_39 (by decide) rfl s ρ x y
theorem ecp_23 {Γ : Ctx} (s : AS) (ρ : Operand → PV) (x y : Operand) (t' : Nat) : evEff Tryz.prog Γ s ρ (.call { callee := .builtin .copy, args := #[x, y], argTypes := #[23, t'] }) = cpX 2 s.nx s.ob (ρ x) (obOf s.ob (ρ x)) (srcEs s.ob 2 (ρ y)) := ecp_of el_23 sz_39 s ρ x y t'
theorem bs_23 : isByteSlice Tryz.prog 23 = false := by kernel_rfl
theorem is_23 : isStr Tryz.prog 23 = false := by kernel_rfl
theorem sz_25 : tySize Tryz.prog 25 = some 1 := by kernel_rfl
theorem ag_25 : tyAgg Tryz.prog 25 = some false := by kernel_rfl
theorem by_25 : tyBytes Tryz.prog 25 = some 24 := by kernel_rfl
theorem ze_25 : zeroOf Tryz.prog 25 = some (.slice none 0 0) := by kernel_rfl
theorem un_25 : Tryz.prog.underlying 25 = some (.slice 9) := by kernel_rfl
theorem el_25 : tyElem Tryz.prog 25 = some 9 := by kernel_rfl
theorem ix_25 {k : Bool} {es : List PV} {i : Int} (h0 : 0 ≤ i) (h1 : i < (es.length : Int)) : evIndexAddr Tryz.prog 25 (.lst k 1 es) i = some (.ptr k ((es[i.toNat]?).getD .dead) 0) := ix_lst un_25 sz_9 h0 h1
theorem ixr_25 {o j n : Nat} {i : Int} (h0 : 0 ≤ i) (h1 : i < (n : Int)) : evIndexAddr Tryz.prog 25 (.row o 1 j n) i = some (.own o 1 (j + i.toNat) 0) := ix_row un_25 sz_9 h0 h1
theorem sl_25 {k : Bool} {es : List PV} {lo hi : Option Int} (h0 : 0 ≤ lo.getD 0) (h1 : lo.getD 0 ≤ hi.getD es.length) (h2 : hi.getD es.length ≤ es.length) : evSlice Tryz.prog 25 (.lst k 1 es) lo hi = some (.lst k 1 ((es.drop (lo.getD 0).toNat).take ((hi.getD es.length).toNat - (lo.getD 0).toNat))) := sl_lst un_25 sz_9 h0 h1 h2
theorem slr_25 {o i n : Nat} {lo hi : Option Int} (h0 : 0 ≤ lo.getD 0) (h1 : lo.getD 0 < hi.getD n) (h2 : hi.getD n ≤ n) : evSlice Tryz.prog 25 (.row o 1 i n) lo hi = some (.row o 1 (i + (lo.getD 0).toNat) ((hi.getD n).toNat - (lo.getD 0).toNat)) := sl_rowlt un_25 sz_9 h0 h1 h2
theorem sle_25 {o i n : Nat} {lo hi : Option Int} (h0 : 0 ≤ lo.getD 0) (h1 : lo.getD 0 = hi.getD n) (h2 : hi.getD n ≤ n) : evSlice Tryz.prog 25 (.row o 1 i n) lo hi = some (.lst true 1 []) := sl_roweq un_25 sz_9 h0 h1 h2
theorem lpl_25 {ty sz : Nat} {k : Bool} {es : List PV} : lenP Tryz.prog 25 ty (.lst k sz es) = some (.val (.int .i64 es.length)) := lp_lst el_25
theorem lpr_25 {ty o sz i n : Nat} : lenP Tryz.prog 25 ty (.row o sz i n) = some (.val (.int .i64 n)) := lp_row el_25
theorem lpn_25 {ty : Nat} : lenP Tryz.prog 25 ty (.val (.slice none 0 0)) = some (.val (.int .i64 0)) := lp_nil un_25
theorem oz_25 : ofVal (.slice none 0 0) = .val (.slice none 0 0) := rfl
theorem ea_25 {Γ : Ctx} (s : AS) (ρ : Operand → PV) : evEff Tryz.prog Γ s ρ (.alloc 25) = some (.own s.nx 1 0 0, upd s.ob s.nx (some (25, 1, [.val (.slice none 0 0)])), s.nx + 1) := ea_of ze_25 (by kernel_rfl) rfl rfl s ρ
theorem em_25 {Γ : Ctx} (s : AS) (ρ : Operand → PV) (l c : Operand) : evEff Tryz.prog Γ s ρ (.makeSlice 25 l c) = mkEv 9 1 16 (.string ByteArray.empty) s (ρ l) (ρ c) := em_of el_25 ze_9 sz_9 by_9 (by kernel_rfl) rfl s ρ l c
theorem eap_25 {Γ : Ctx} (s : AS) (ρ : Operand → PV) (x y : Operand) : evEff Tryz.prog Γ s ρ (.call { callee := .builtin .append, args := #[x, y], argTypes := #[25, 25] }) = apEv 9 1 16 s.nx s.ob (ρ x) (obOf s.ob (ρ x)) (sliceEs s.ob 1 (ρ y)) := eap_of el_25 ze_9 sz_9 by_9 (by decide) rfl s ρ x y
theorem ecp_25 {Γ : Ctx} (s : AS) (ρ : Operand → PV) (x y : Operand) (t' : Nat) : evEff Tryz.prog Γ s ρ (.call { callee := .builtin .copy, args := #[x, y], argTypes := #[25, t'] }) = cpX 1 s.nx s.ob (ρ x) (obOf s.ob (ρ x)) (srcEs s.ob 1 (ρ y)) := ecp_of el_25 sz_9 s ρ x y t'
theorem bs_25 : isByteSlice Tryz.prog 25 = false := by kernel_rfl
theorem is_25 : isStr Tryz.prog 25 = false := by kernel_rfl
theorem sz_28 : tySize Tryz.prog 28 = some 1 := by kernel_rfl
theorem ag_28 : tyAgg Tryz.prog 28 = some false := by kernel_rfl
theorem by_28 : tyBytes Tryz.prog 28 = some 24 := by kernel_rfl
theorem ze_28 : zeroOf Tryz.prog 28 = some (.slice none 0 0) := by kernel_rfl
theorem un_28 : Tryz.prog.underlying 28 = some (.slice 3) := by kernel_rfl
theorem el_28 : tyElem Tryz.prog 28 = some 3 := by kernel_rfl
theorem ix_28 {k : Bool} {es : List PV} {i : Int} (h0 : 0 ≤ i) (h1 : i < (es.length : Int)) : evIndexAddr Tryz.prog 28 (.lst k 1 es) i = some (.ptr k ((es[i.toNat]?).getD .dead) 0) := ix_lst un_28 sz_3 h0 h1
theorem ixr_28 {o j n : Nat} {i : Int} (h0 : 0 ≤ i) (h1 : i < (n : Int)) : evIndexAddr Tryz.prog 28 (.row o 1 j n) i = some (.own o 1 (j + i.toNat) 0) := ix_row un_28 sz_3 h0 h1
theorem sl_28 {k : Bool} {es : List PV} {lo hi : Option Int} (h0 : 0 ≤ lo.getD 0) (h1 : lo.getD 0 ≤ hi.getD es.length) (h2 : hi.getD es.length ≤ es.length) : evSlice Tryz.prog 28 (.lst k 1 es) lo hi = some (.lst k 1 ((es.drop (lo.getD 0).toNat).take ((hi.getD es.length).toNat - (lo.getD 0).toNat))) := sl_lst un_28 sz_3 h0 h1 h2
theorem slr_28 {o i n : Nat} {lo hi : Option Int} (h0 : 0 ≤ lo.getD 0) (h1 : lo.getD 0 < hi.getD n) (h2 : hi.getD n ≤ n) : evSlice Tryz.prog 28 (.row o 1 i n) lo hi = some (.row o 1 (i + (lo.getD 0).toNat) ((hi.getD n).toNat - (lo.getD 0).toNat)) := sl_rowlt un_28 sz_3 h0 h1 h2
theorem sle_28 {o i n : Nat} {lo hi : Option Int} (h0 : 0 ≤ lo.getD 0) (h1 : lo.getD 0 = hi.getD n) (h2 : hi.getD n ≤ n) : evSlice Tryz.prog 28 (.row o 1 i n) lo hi = some (.lst true 1 []) := sl_roweq un_28 sz_3 h0 h1 h2
theorem lpl_28 {ty sz : Nat} {k : Bool} {es : List PV} : lenP Tryz.prog 28 ty (.lst k sz es) = some (.val (.int .i64 es.length)) := lp_lst el_28
theorem lpr_28 {ty o sz i n : Nat} : lenP Tryz.prog 28 ty (.row o sz i n) = some (.val (.int .i64 n)) := lp_row el_28
theorem lpn_28 {ty : Nat} : lenP Tryz.prog 28 ty (.val (.slice none 0 0)) = some (.val (.int .i64 0)) := lp_nil un_28
theorem oz_28 : ofVal (.slice none 0 0) = .val (.slice none 0 0) := rfl
theorem ea_28 {Γ : Ctx} (s : AS) (ρ : Operand → PV) : evEff Tryz.prog Γ s ρ (.alloc 28) = some (.own s.nx 1 0 0, upd s.ob s.nx (some (28, 1, [.val (.slice none 0 0)])), s.nx + 1) := ea_of ze_28 (by kernel_rfl) rfl rfl s ρ
theorem em_28 {Γ : Ctx} (s : AS) (ρ : Operand → PV) (l c : Operand) : evEff Tryz.prog Γ s ρ (.makeSlice 28 l c) = mkEv 3 1 8 (.int .i64 0) s (ρ l) (ρ c) := em_of el_28 ze_3 sz_3 by_3 (by kernel_rfl) rfl s ρ l c
theorem eap_28 {Γ : Ctx} (s : AS) (ρ : Operand → PV) (x y : Operand) : evEff Tryz.prog Γ s ρ (.call { callee := .builtin .append, args := #[x, y], argTypes := #[28, 28] }) = apEv 3 1 8 s.nx s.ob (ρ x) (obOf s.ob (ρ x)) (sliceEs s.ob 1 (ρ y)) := eap_of el_28 ze_3 sz_3 by_3 (by decide) rfl s ρ x y
theorem ecp_28 {Γ : Ctx} (s : AS) (ρ : Operand → PV) (x y : Operand) (t' : Nat) : evEff Tryz.prog Γ s ρ (.call { callee := .builtin .copy, args := #[x, y], argTypes := #[28, t'] }) = cpX 1 s.nx s.ob (ρ x) (obOf s.ob (ρ x)) (srcEs s.ob 1 (ρ y)) := ecp_of el_28 sz_3 s ρ x y t'
theorem bs_28 : isByteSlice Tryz.prog 28 = false := by kernel_rfl
theorem is_28 : isStr Tryz.prog 28 = false := by kernel_rfl
theorem sz_62 : tySize Tryz.prog 62 = some 1 := by kernel_rfl
theorem ag_62 : tyAgg Tryz.prog 62 = some false := by kernel_rfl
theorem by_62 : tyBytes Tryz.prog 62 = some 24 := by kernel_rfl
theorem ze_62 : zeroOf Tryz.prog 62 = some (.slice none 0 0) := by kernel_rfl
theorem un_62 : Tryz.prog.underlying 62 = some (.slice 64) := by kernel_rfl
theorem el_62 : tyElem Tryz.prog 62 = some 64 := by kernel_rfl
theorem ix_62 {k : Bool} {es : List PV} {i : Int} (h0 : 0 ≤ i) (h1 : i < (es.length : Int)) : evIndexAddr Tryz.prog 62 (.lst k 2 es) i = some (.ptr k ((es[i.toNat]?).getD .dead) 0) := ix_lst un_62 sz_64 h0 h1
theorem ixr_62 {o j n : Nat} {i : Int} (h0 : 0 ≤ i) (h1 : i < (n : Int)) : evIndexAddr Tryz.prog 62 (.row o 2 j n) i = some (.own o 2 (j + i.toNat) 0) := ix_row un_62 sz_64 h0 h1
theorem sl_62 {k : Bool} {es : List PV} {lo hi : Option Int} (h0 : 0 ≤ lo.getD 0) (h1 : lo.getD 0 ≤ hi.getD es.length) (h2 : hi.getD es.length ≤ es.length) : evSlice Tryz.prog 62 (.lst k 2 es) lo hi = some (.lst k 2 ((es.drop (lo.getD 0).toNat).take ((hi.getD es.length).toNat - (lo.getD 0).toNat))) := sl_lst un_62 sz_64 h0 h1 h2
theorem slr_62 {o i n : Nat} {lo hi : Option Int} (h0 : 0 ≤ lo.getD 0) (h1 : lo.getD 0 < hi.getD n) (h2 : hi.getD n ≤ n) : evSlice Tryz.prog 62 (.row o 2 i n) lo hi = some (.row o 2 (i + (lo.getD 0).toNat) ((hi.getD n).toNat - (lo.getD 0).toNat)) := sl_rowlt un_62 sz_64 h0 h1 h2
theorem sle_62 {o i n : Nat} {lo hi : Option Int} (h0 : 0 ≤ lo.getD 0) (h1 : lo.getD 0 = hi.getD n) (h2 : hi.getD n ≤ n) : evSlice Tryz.prog 62 (.row o 2 i n) lo hi = some (.lst true 2 []) := sl_roweq un_62 sz_64 h0 h1 h2
theorem lpl_62 {ty sz : Nat} {k : Bool} {es : List PV} : lenP Tryz.prog 62 ty (.lst k sz es) = some (.val (.int .i64 es.length)) := lp_lst el_62
theorem lpr_62 {ty o sz i n : Nat} : lenP Tryz.prog 62 ty (.row o sz i n) = some (.val (.int .i64 n)) := lp_row el_62
theorem lpn_62 {ty : Nat} : lenP Tryz.prog 62 ty (.val (.slice none 0 0)) = some (.val (.int .i64 0)) := lp_nil un_62
theorem oz_62 : ofVal (.slice none 0 0) = .val (.slice none 0 0) := rfl
theorem ea_62 {Γ : Ctx} (s : AS) (ρ : Operand → PV) : evEff Tryz.prog Γ s ρ (.alloc 62) = some (.own s.nx 1 0 0, upd s.ob s.nx (some (62, 1, [.val (.slice none 0 0)])), s.nx + 1) := ea_of ze_62 (by kernel_rfl) rfl rfl s ρ
theorem em_62 {Γ : Ctx} (s : AS) (ρ : Operand → PV) (l c : Operand) : evEff Tryz.prog Γ s ρ (.makeSlice 62 l c) = mkEv 64 2 16 (.agg #[.int .i64 0, .int .i64 0]) s (ρ l) (ρ c) := em_of el_62 ze_64 sz_64 by_64 (by kernel_rfl) rfl s ρ l c
theorem eap_62 {Γ : Ctx} (s : AS) (ρ : Operand → PV) (x y : Operand) : evEff Tryz.prog Γ s ρ (.call { callee := .builtin .append, args := #[x, y], argTypes := #[62, 62] }) = apEv 64 2 16 s.nx s.ob (ρ x) (obOf s.ob (ρ x)) (sliceEs s.ob 2 (ρ y)) := eap_of el_62 ze_64 sz_64 by_64 (by decide) rfl s ρ x y
theorem ecp_62 {Γ : Ctx} (s : AS) (ρ : Operand → PV) (x y : Operand) (t' : Nat) : evEff Tryz.prog Γ s ρ (.call { callee := .builtin .copy, args := #[x, y], argTypes := #[62, t'] }) = cpX 2 s.nx s.ob (ρ x) (obOf s.ob (ρ x)) (srcEs s.ob 2 (ρ y)) := ecp_of el_62 sz_64 s ρ x y t'
theorem bs_62 : isByteSlice Tryz.prog 62 = false := by kernel_rfl
theorem is_62 : isStr Tryz.prog 62 = false := by kernel_rfl
theorem cvi_2_2 {k : IntKind} {n : Int} {es : Option (List PV)} : convP Tryz.prog 2 2 false es (some (.int k n)) = some (.val (.int .i64 (IntKind.i64.wrap n))) := cv_int un_2 un_2
theorem cvi_2_3 {k : IntKind} {n : Int} {es : Option (List PV)} : convP Tryz.prog 2 3 false es (some (.int k n)) = some (.val (.int .i64 (IntKind.i64.wrap n))) := cv_int un_2 un_3
theorem cvi_2_5 {k : IntKind} {n : Int} {es : Option (List PV)} : convP Tryz.prog 2 5 false es (some (.int k n)) = some (.val (.int .u8 (IntKind.u8.wrap n))) := cv_int un_2 un_5
theorem cvi_2_12 {k : IntKind} {n : Int} {es : Option (List PV)} : convP Tryz.prog 2 12 false es (some (.int k n)) = some (.val (.int .u64 (IntKind.u64.wrap n))) := cv_int un_2 un_12
theorem cvi_2_21 {k : IntKind} {n : Int} {es : Option (List PV)} : convP Tryz.prog 2 21 false es (some (.int k n)) = some (.val (.int .i32 (IntKind.i32.wrap n))) := cv_int un_2 un_21
theorem cvi_2_60 {k : IntKind} {n : Int} {es : Option (List PV)} : convP Tryz.prog 2 60 false es (some (.int k n)) = some (.val (.int .u64 (IntKind.u64.wrap n))) := cv_int un_2 un_60
theorem cvi_2_79 {k : IntKind} {n : Int} {es : Option (List PV)} : convP Tryz.prog 2 79 false es (some (.int k n)) = some (.val (.int .i64 (IntKind.i64.wrap n))) := cv_int un_2 un_79
theorem cvi_2_88 {k : IntKind} {n : Int} {es : Option (List PV)} : convP Tryz.prog 2 88 false es (some (.int k n)) = some (.val (.int .u32 (IntKind.u32.wrap n))) := cv_int un_2 un_88
theorem cvi_2_90 {k : IntKind} {n : Int} {es : Option (List PV)} : convP Tryz.prog 2 90 false es (some (.int k n)) = some (.val (.int .u64 (IntKind.u64.wrap n))) := cv_int un_2 un_90
theorem cvi_2_105 {k : IntKind} {n : Int} {es : Option (List PV)} : convP Tryz.prog 2 105 false es (some (.int k n)) = some (.val (.int .u64 (IntKind.u64.wrap n))) := cv_int un_2 un_105
theorem cvi_3_2 {k : IntKind} {n : Int} {es : Option (List PV)} : convP Tryz.prog 3 2 false es (some (.int k n)) = some (.val (.int .i64 (IntKind.i64.wrap n))) := cv_int un_3 un_2
theorem cvi_3_3 {k : IntKind} {n : Int} {es : Option (List PV)} : convP Tryz.prog 3 3 false es (some (.int k n)) = some (.val (.int .i64 (IntKind.i64.wrap n))) := cv_int un_3 un_3
theorem cvi_3_5 {k : IntKind} {n : Int} {es : Option (List PV)} : convP Tryz.prog 3 5 false es (some (.int k n)) = some (.val (.int .u8 (IntKind.u8.wrap n))) := cv_int un_3 un_5
theorem cvi_3_12 {k : IntKind} {n : Int} {es : Option (List PV)} : convP Tryz.prog 3 12 false es (some (.int k n)) = some (.val (.int .u64 (IntKind.u64.wrap n))) := cv_int un_3 un_12
theorem cvi_3_21 {k : IntKind} {n : Int} {es : Option (List PV)} : convP Tryz.prog 3 21 false es (some (.int k n)) = some (.val (.int .i32 (IntKind.i32.wrap n))) := cv_int un_3 un_21
theorem cvi_3_60 {k : IntKind} {n : Int} {es : Option (List PV)} : convP Tryz.prog 3 60 false es (some (.int k n)) = some (.val (.int .u64 (IntKind.u64.wrap n))) := cv_int un_3 un_60
theorem cvi_3_79 {k : IntKind} {n : Int} {es : Option (List PV)} : convP Tryz.prog 3 79 false es (some (.int k n)) = some (.val (.int .i64 (IntKind.i64.wrap n))) := cv_int un_3 un_79
theorem cvi_3_88 {k : IntKind} {n : Int} {es : Option (List PV)} : convP Tryz.prog 3 88 false es (some (.int k n)) = some (.val (.int .u32 (IntKind.u32.wrap n))) := cv_int un_3 un_88
theorem cvi_3_90 {k : IntKind} {n : Int} {es : Option (List PV)} : convP Tryz.prog 3 90 false es (some (.int k n)) = some (.val (.int .u64 (IntKind.u64.wrap n))) := cv_int un_3 un_90
theorem cvi_3_105 {k : IntKind} {n : Int} {es : Option (List PV)} : convP Tryz.prog 3 105 false es (some (.int k n)) = some (.val (.int .u64 (IntKind.u64.wrap n))) := cv_int un_3 un_105
theorem cvi_5_2 {k : IntKind} {n : Int} {es : Option (List PV)} : convP Tryz.prog 5 2 false es (some (.int k n)) = some (.val (.int .i64 (IntKind.i64.wrap n))) := cv_int un_5 un_2
theorem cvi_5_3 {k : IntKind} {n : Int} {es : Option (List PV)} : convP Tryz.prog 5 3 false es (some (.int k n)) = some (.val (.int .i64 (IntKind.i64.wrap n))) := cv_int un_5 un_3
theorem cvi_5_5 {k : IntKind} {n : Int} {es : Option (List PV)} : convP Tryz.prog 5 5 false es (some (.int k n)) = some (.val (.int .u8 (IntKind.u8.wrap n))) := cv_int un_5 un_5
theorem cvi_5_12 {k : IntKind} {n : Int} {es : Option (List PV)} : convP Tryz.prog 5 12 false es (some (.int k n)) = some (.val (.int .u64 (IntKind.u64.wrap n))) := cv_int un_5 un_12
theorem cvi_5_21 {k : IntKind} {n : Int} {es : Option (List PV)} : convP Tryz.prog 5 21 false es (some (.int k n)) = some (.val (.int .i32 (IntKind.i32.wrap n))) := cv_int un_5 un_21
theorem cvi_5_60 {k : IntKind} {n : Int} {es : Option (List PV)} : convP Tryz.prog 5 60 false es (some (.int k n)) = some (.val (.int .u64 (IntKind.u64.wrap n))) := cv_int un_5 un_60
theorem cvi_5_79 {k : IntKind} {n : Int} {es : Option (List PV)} : convP Tryz.prog 5 79 false es (some (.int k n)) = some (.val (.int .i64 (IntKind.i64.wrap n))) := cv_int un_5 un_79
theorem cvi_5_88 {k : IntKind} {n : Int} {es : Option (List PV)} : convP Tryz.prog 5 88 false es (some (.int k n)) = some (.val (.int .u32 (IntKind.u32.wrap n))) := cv_int un_5 un_88
theorem cvi_5_90 {k : IntKind} {n : Int} {es : Option (List PV)} : convP Tryz.prog 5 90 false es (some (.int k n)) = some (.val (.int .u64 (IntKind.u64.wrap n))) := cv_int un_5 un_90
theorem cvi_5_105 {k : IntKind} {n : Int} {es : Option (List PV)} : convP Tryz.prog 5 105 false es (some (.int k n)) = some (.val (.int .u64 (IntKind.u64.wrap n))) := cv_int un_5 un_105
theorem cvi_12_2 {k : IntKind} {n : Int} {es : Option (List PV)} : convP Tryz.prog 12 2 false es (some (.int k n)) = some (.val (.int .i64 (IntKind.i64.wrap n))) := cv_int un_12 un_2
theorem cvi_12_3 {k : IntKind} {n : Int} {es : Option (List PV)} : convP Tryz.prog 12 3 false es (some (.int k n)) = some (.val (.int .i64 (IntKind.i64.wrap n))) := cv_int un_12 un_3
theorem cvi_12_5 {k : IntKind} {n : Int} {es : Option (List PV)} : convP Tryz.prog 12 5 false es (some (.int k n)) = some (.val (.int .u8 (IntKind.u8.wrap n))) := cv_int un_12 un_5
theorem cvi_12_12 {k : IntKind} {n : Int} {es : Option (List PV)} : convP Tryz.prog 12 12 false es (some (.int k n)) = some (.val (.int .u64 (IntKind.u64.wrap n))) := cv_int un_12 un_12
theorem cvi_12_21 {k : IntKind} {n : Int} {es : Option (List PV)} : convP Tryz.prog 12 21 false es (some (.int k n)) = some (.val (.int .i32 (IntKind.i32.wrap n))) := cv_int un_12 un_21
theorem cvi_12_60 {k : IntKind} {n : Int} {es : Option (List PV)} : convP Tryz.prog 12 60 false es (some (.int k n)) = some (.val (.int .u64 (IntKind.u64.wrap n))) := cv_int un_12 un_60
theorem cvi_12_79 {k : IntKind} {n : Int} {es : Option (List PV)} : convP Tryz.prog 12 79 false es (some (.int k n)) = some (.val (.int .i64 (IntKind.i64.wrap n))) := cv_int un_12 un_79
theorem cvi_12_88 {k : IntKind} {n : Int} {es : Option (List PV)} : convP Tryz.prog 12 88 false es (some (.int k n)) = some (.val (.int .u32 (IntKind.u32.wrap n))) := cv_int un_12 un_88
theorem cvi_12_90 {k : IntKind} {n : Int} {es : Option (List PV)} : convP Tryz.prog 12 90 false es (some (.int k n)) = some (.val (.int .u64 (IntKind.u64.wrap n))) := cv_int un_12 un_90
theorem cvi_12_105 {k : IntKind} {n : Int} {es : Option (List PV)} : convP Tryz.prog 12 105 false es (some (.int k n)) = some (.val (.int .u64 (IntKind.u64.wrap n))) := cv_int un_12 un_105
theorem cvi_21_2 {k : IntKind} {n : Int} {es : Option (List PV)} : convP Tryz.prog 21 2 false es (some (.int k n)) = some (.val (.int .i64 (IntKind.i64.wrap n))) := cv_int un_21 un_2
theorem cvi_21_3 {k : IntKind} {n : Int} {es : Option (List PV)} : convP Tryz.prog 21 3 false es (some (.int k n)) = some (.val (.int .i64 (IntKind.i64.wrap n))) := cv_int un_21 un_3
theorem cvi_21_5 {k : IntKind} {n : Int} {es : Option (List PV)} : convP Tryz.prog 21 5 false es (some (.int k n)) = some (.val (.int .u8 (IntKind.u8.wrap n))) := cv_int un_21 un_5
theorem cvi_21_12 {k : IntKind} {n : Int} {es : Option (List PV)} : convP Tryz.prog 21 12 false es (some (.int k n)) = some (.val (.int .u64 (IntKind.u64.wrap n))) := cv_int un_21 un_12
theorem cvi_21_21 {k : IntKind} {n : Int} {es : Option (List PV)} : convP Tryz.prog 21 21 false es (some (.int k n)) = some (.val (.int .i32 (IntKind.i32.wrap n))) := cv_int un_21 un_21
theorem cvi_21_60 {k : IntKind} {n : Int} {es : Option (List PV)} : convP Tryz.prog 21 60 false es (some (.int k n)) = some (.val (.int .u64 (IntKind.u64.wrap n))) := cv_int un_21 un_60
theorem cvi_21_79 {k : IntKind} {n : Int} {es : Option (List PV)} : convP Tryz.prog 21 79 false es (some (.int k n)) = some (.val (.int .i64 (IntKind.i64.wrap n))) := cv_int un_21 un_79
theorem cvi_21_88 {k : IntKind} {n : Int} {es : Option (List PV)} : convP Tryz.prog 21 88 false es (some (.int k n)) = some (.val (.int .u32 (IntKind.u32.wrap n))) := cv_int un_21 un_88
theorem cvi_21_90 {k : IntKind} {n : Int} {es : Option (List PV)} : convP Tryz.prog 21 90 false es (some (.int k n)) = some (.val (.int .u64 (IntKind.u64.wrap n))) := cv_int un_21 un_90
theorem cvi_21_105 {k : IntKind} {n : Int} {es : Option (List PV)} : convP Tryz.prog 21 105 false es (some (.int k n)) = some (.val (.int .u64 (IntKind.u64.wrap n))) := cv_int un_21 un_105
theorem cvi_60_2 {k : IntKind} {n : Int} {es : Option (List PV)} : convP Tryz.prog 60 2 false es (some (.int k n)) = some (.val (.int .i64 (IntKind.i64.wrap n))) := cv_int un_60 un_2
theorem cvi_60_3 {k : IntKind} {n : Int} {es : Option (List PV)} : convP Tryz.prog 60 3 false es (some (.int k n)) = some (.val (.int .i64 (IntKind.i64.wrap n))) := cv_int un_60 un_3
theorem cvi_60_5 {k : IntKind} {n : Int} {es : Option (List PV)} : convP Tryz.prog 60 5 false es (some (.int k n)) = some (.val (.int .u8 (IntKind.u8.wrap n))) := cv_int un_60 un_5
theorem cvi_60_12 {k : IntKind} {n : Int} {es : Option (List PV)} : convP Tryz.prog 60 12 false es (some (.int k n)) = some (.val (.int .u64 (IntKind.u64.wrap n))) := cv_int un_60 un_12
theorem cvi_60_21 {k : IntKind} {n : Int} {es : Option (List PV)} : convP Tryz.prog 60 21 false es (some (.int k n)) = some (.val (.int .i32 (IntKind.i32.wrap n))) := cv_int un_60 un_21
theorem cvi_60_60 {k : IntKind} {n : Int} {es : Option (List PV)} : convP Tryz.prog 60 60 false es (some (.int k n)) = some (.val (.int .u64 (IntKind.u64.wrap n))) := cv_int un_60 un_60
theorem cvi_60_79 {k : IntKind} {n : Int} {es : Option (List PV)} : convP Tryz.prog 60 79 false es (some (.int k n)) = some (.val (.int .i64 (IntKind.i64.wrap n))) := cv_int un_60 un_79
theorem cvi_60_88 {k : IntKind} {n : Int} {es : Option (List PV)} : convP Tryz.prog 60 88 false es (some (.int k n)) = some (.val (.int .u32 (IntKind.u32.wrap n))) := cv_int un_60 un_88
theorem cvi_60_90 {k : IntKind} {n : Int} {es : Option (List PV)} : convP Tryz.prog 60 90 false es (some (.int k n)) = some (.val (.int .u64 (IntKind.u64.wrap n))) := cv_int un_60 un_90
theorem cvi_60_105 {k : IntKind} {n : Int} {es : Option (List PV)} : convP Tryz.prog 60 105 false es (some (.int k n)) = some (.val (.int .u64 (IntKind.u64.wrap n))) := cv_int un_60 un_105
theorem cvi_79_2 {k : IntKind} {n : Int} {es : Option (List PV)} : convP Tryz.prog 79 2 false es (some (.int k n)) = some (.val (.int .i64 (IntKind.i64.wrap n))) := cv_int un_79 un_2
theorem cvi_79_3 {k : IntKind} {n : Int} {es : Option (List PV)} : convP Tryz.prog 79 3 false es (some (.int k n)) = some (.val (.int .i64 (IntKind.i64.wrap n))) := cv_int un_79 un_3
theorem cvi_79_5 {k : IntKind} {n : Int} {es : Option (List PV)} : convP Tryz.prog 79 5 false es (some (.int k n)) = some (.val (.int .u8 (IntKind.u8.wrap n))) := cv_int un_79 un_5
theorem cvi_79_12 {k : IntKind} {n : Int} {es : Option (List PV)} : convP Tryz.prog 79 12 false es (some (.int k n)) = some (.val (.int .u64 (IntKind.u64.wrap n))) := cv_int un_79 un_12
theorem cvi_79_21 {k : IntKind} {n : Int} {es : Option (List PV)} : convP Tryz.prog 79 21 false es (some (.int k n)) = some (.val (.int .i32 (IntKind.i32.wrap n))) := cv_int un_79 un_21
theorem cvi_79_60 {k : IntKind} {n : Int} {es : Option (List PV)} : convP Tryz.prog 79 60 false es (some (.int k n)) = some (.val (.int .u64 (IntKind.u64.wrap n))) := cv_int un_79 un_60
theorem cvi_79_79 {k : IntKind} {n : Int} {es : Option (List PV)} : convP Tryz.prog 79 79 false es (some (.int k n)) = some (.val (.int .i64 (IntKind.i64.wrap n))) := cv_int un_79 un_79
theorem cvi_79_88 {k : IntKind} {n : Int} {es : Option (List PV)} : convP Tryz.prog 79 88 false es (some (.int k n)) = some (.val (.int .u32 (IntKind.u32.wrap n))) := cv_int un_79 un_88
theorem cvi_79_90 {k : IntKind} {n : Int} {es : Option (List PV)} : convP Tryz.prog 79 90 false es (some (.int k n)) = some (.val (.int .u64 (IntKind.u64.wrap n))) := cv_int un_79 un_90
theorem cvi_79_105 {k : IntKind} {n : Int} {es : Option (List PV)} : convP Tryz.prog 79 105 false es (some (.int k n)) = some (.val (.int .u64 (IntKind.u64.wrap n))) := cv_int un_79 un_105
theorem cvi_88_2 {k : IntKind} {n : Int} {es : Option (List PV)} : convP Tryz.prog 88 2 false es (some (.int k n)) = some (.val (.int .i64 (IntKind.i64.wrap n))) := cv_int un_88 un_2
theorem cvi_88_3 {k : IntKind} {n : Int} {es : Option (List PV)} : convP Tryz.prog 88 3 false es (some (.int k n)) = some (.val (.int .i64 (IntKind.i64.wrap n))) := cv_int un_88 un_3
theorem cvi_88_5 {k : IntKind} {n : Int} {es : Option (List PV)} : convP Tryz.prog 88 5 false es (some (.int k n)) = some (.val (.int .u8 (IntKind.u8.wrap n))) := cv_int un_88 un_5
theorem cvi_88_12 {k : IntKind} {n : Int} {es : Option (List PV)} : convP Tryz.prog 88 12 false es (some (.int k n)) = some (.val (.int .u64 (IntKind.u64.wrap n))) := cv_int un_88 un_12
theorem cvi_88_21 {k : IntKind} {n : Int} {es : Option (List PV)} : convP Tryz.prog 88 21 false es (some (.int k n)) = some (.val (.int .i32 (IntKind.i32.wrap n))) := cv_int un_88 un_21
theorem cvi_88_60 {k : IntKind} {n : Int} {es : Option (List PV)} : convP Tryz.prog 88 60 false es (some (.int k n)) = some (.val (.int .u64 (IntKind.u64.wrap n))) := cv_int un_88 un_60
theorem cvi_88_79 {k : IntKind} {n : Int} {es : Option (List PV)} : convP Tryz.prog 88 79 false es (some (.int k n)) = some (.val (.int .i64 (IntKind.i64.wrap n))) := cv_int un_88 un_79
theorem cvi_88_88 {k : IntKind} {n : Int} {es : Option (List PV)} : convP Tryz.prog 88 88 false es (some (.int k n)) = some (.val (.int .u32 (IntKind.u32.wrap n))) := cv_int un_88 un_88
theorem cvi_88_90 {k : IntKind} {n : Int} {es : Option (List PV)} : convP Tryz.prog 88 90 false es (some (.int k n)) = some (.val (.int .u64 (IntKind.u64.wrap n))) := cv_int un_88 un_90
theorem cvi_88_105 {k : IntKind} {n : Int} {es : Option (List PV)} : convP Tryz.prog 88 105 false es (some (.int k n)) = some (.val (.int .u64 (IntKind.u64.wrap n))) := cv_int un_88 un_105
theorem cvi_90_2 {k : IntKind} {n : Int} {es : Option (List PV)} : convP Tryz.prog 90 2 false es (some (.int k n)) = some (.val (.int .i64 (IntKind.i64.wrap n))) := cv_int un_90 un_2
theorem cvi_90_3 {k : IntKind} {n : Int} {es : Option (List PV)} : convP Tryz.prog 90 3 false es (some (.int k n)) = some (.val (.int .i64 (IntKind.i64.wrap n))) := cv_int un_90 un_3
theorem cvi_90_5 {k : IntKind} {n : Int} {es : Option (List PV)} : convP Tryz.prog 90 5 false es (some (.int k n)) = some (.val (.int .u8 (IntKind.u8.wrap n))) := cv_int un_90 un_5
theorem cvi_90_12 {k : IntKind} {n : Int} {es : Option (List PV)} : convP Tryz.prog 90 12 false es (some (.int k n)) = some (.val (.int .u64 (IntKind.u64.wrap n))) := cv_int un_90 un_12
theorem cvi_90_21 {k : IntKind} {n : Int} {es : Option (List PV)} : convP Tryz.prog 90 21 false es (some (.int k n)) = some (.val (.int .i32 (IntKind.i32.wrap n))) := cv_int un_90 un_21
theorem cvi_90_60 {k : IntKind} {n : Int} {es : Option (List PV)} : convP Tryz.prog 90 60 false es (some (.int k n)) = some (.val (.int .u64 (IntKind.u64.wrap n))) := cv_int un_90 un_60
theorem cvi_90_79 {k : IntKind} {n : Int} {es : Option (List PV)} : convP Tryz.prog 90 79 false es (some (.int k n)) = some (.val (.int .i64 (IntKind.i64.wrap n))) := cv_int un_90 un_79
theorem cvi_90_88 {k : IntKind} {n : Int} {es : Option (List PV)} : convP Tryz.prog 90 88 false es (some (.int k n)) = some (.val (.int .u32 (IntKind.u32.wrap n))) := cv_int un_90 un_88
theorem cvi_90_90 {k : IntKind} {n : Int} {es : Option (List PV)} : convP Tryz.prog 90 90 false es (some (.int k n)) = some (.val (.int .u64 (IntKind.u64.wrap n))) := cv_int un_90 un_90
theorem cvi_90_105 {k : IntKind} {n : Int} {es : Option (List PV)} : convP Tryz.prog 90 105 false es (some (.int k n)) = some (.val (.int .u64 (IntKind.u64.wrap n))) := cv_int un_90 un_105
theorem cvi_105_2 {k : IntKind} {n : Int} {es : Option (List PV)} : convP Tryz.prog 105 2 false es (some (.int k n)) = some (.val (.int .i64 (IntKind.i64.wrap n))) := cv_int un_105 un_2
theorem cvi_105_3 {k : IntKind} {n : Int} {es : Option (List PV)} : convP Tryz.prog 105 3 false es (some (.int k n)) = some (.val (.int .i64 (IntKind.i64.wrap n))) := cv_int un_105 un_3
theorem cvi_105_5 {k : IntKind} {n : Int} {es : Option (List PV)} : convP Tryz.prog 105 5 false es (some (.int k n)) = some (.val (.int .u8 (IntKind.u8.wrap n))) := cv_int un_105 un_5
theorem cvi_105_12 {k : IntKind} {n : Int} {es : Option (List PV)} : convP Tryz.prog 105 12 false es (some (.int k n)) = some (.val (.int .u64 (IntKind.u64.wrap n))) := cv_int un_105 un_12
theorem cvi_105_21 {k : IntKind} {n : Int} {es : Option (List PV)} : convP Tryz.prog 105 21 false es (some (.int k n)) = some (.val (.int .i32 (IntKind.i32.wrap n))) := cv_int un_105 un_21
theorem cvi_105_60 {k : IntKind} {n : Int} {es : Option (List PV)} : convP Tryz.prog 105 60 false es (some (.int k n)) = some (.val (.int .u64 (IntKind.u64.wrap n))) := cv_int un_105 un_60
theorem cvi_105_79 {k : IntKind} {n : Int} {es : Option (List PV)} : convP Tryz.prog 105 79 false es (some (.int k n)) = some (.val (.int .i64 (IntKind.i64.wrap n))) := cv_int un_105 un_79
theorem cvi_105_88 {k : IntKind} {n : Int} {es : Option (List PV)} : convP Tryz.prog 105 88 false es (some (.int k n)) = some (.val (.int .u32 (IntKind.u32.wrap n))) := cv_int un_105 un_88
theorem cvi_105_90 {k : IntKind} {n : Int} {es : Option (List PV)} : convP Tryz.prog 105 90 false es (some (.int k n)) = some (.val (.int .u64 (IntKind.u64.wrap n))) := cv_int un_105 un_90
theorem cvi_105_105 {k : IntKind} {n : Int} {es : Option (List PV)} : convP Tryz.prog 105 105 false es (some (.int k n)) = some (.val (.int .u64 (IntKind.u64.wrap n))) := cv_int un_105 un_105
theorem rw_22_1 {a0 : PV} : rowEs Tryz.prog 22 1 [(0, a0)] = rowC 5 1 [a0] (okP 1 a0 && (true)) := rw_of el_22 sz_5 ze_5 _ (by decide) (by decide) rfl
theorem rw_23_0 : rowEs Tryz.prog 23 0 [] = rowC 39 2 [] (true) := rw_of el_23 sz_39 ze_39 _ (by decide) (by decide) rfl
theorem rw_23_1 {a0 : PV} : rowEs Tryz.prog 23 1 [(0, a0)] = rowC 39 2 [a0] (okP 2 a0 && (true)) := rw_of el_23 sz_39 ze_39 _ (by decide) (by decide) rfl
theorem rw_23_3 {a0 a1 a2 : PV} : rowEs Tryz.prog 23 3 [(0, a0), (1, a1), (2, a2)] = rowC 39 2 [a0, a1, a2] (okP 2 a0 && (okP 2 a1 && (okP 2 a2 && (true)))) := rw_of el_23 sz_39 ze_39 _ (by decide) (by decide) rfl
theorem rw_25_0 : rowEs Tryz.prog 25 0 [] = rowC 9 1 [] (true) := rw_of el_25 sz_9 ze_9 _ (by decide) (by decide) rfl
theorem rw_25_1 {a0 : PV} : rowEs Tryz.prog 25 1 [(0, a0)] = rowC 9 1 [a0] (okP 1 a0 && (true)) := rw_of el_25 sz_9 ze_9 _ (by decide) (by decide) rfl
theorem rw_25_5 {a0 a1 a2 a3 a4 : PV} : rowEs Tryz.prog 25 5 [(0, a0), (1, a1), (2, a2), (3, a3), (4, a4)] = rowC 9 1 [a0, a1, a2, a3, a4] (okP 1 a0 && (okP 1 a1 && (okP 1 a2 && (okP 1 a3 && (okP 1 a4 && (true)))))) := rw_of el_25 sz_9 ze_9 _ (by decide) (by decide) rfl
theorem rw_28_0 : rowEs Tryz.prog 28 0 [] = rowC 3 1 [] (true) := rw_of el_28 sz_3 ze_3 _ (by decide) (by decide) rfl
theorem rw_28_1 {a0 : PV} : rowEs Tryz.prog 28 1 [(0, a0)] = rowC 3 1 [a0] (okP 1 a0 && (true)) := rw_of el_28 sz_3 ze_3 _ (by decide) (by decide) rfl
theorem rw_62_1 {a0 : PV} : rowEs Tryz.prog 62 1 [(0, a0)] = rowC 64 2 [a0] (okP 2 a0 && (true)) := rw_of el_62 sz_64 ze_64 _ (by decide) (by decide) rfl
theorem mixed : Tryz.prog.follows .mixedOrders = true := by kernel_rfl
attribute [push_cast high]
  bz_7 bz_13 bz_38 bz_39 bz_49 bz_50 bz_53 bz_54 bz_143 bz_144 bz_150 bz_151
attribute [push_cast]
  sz_2 ag_2 by_2 ze_2 un_2 oz_2 ea_2 bs_2 is_2 sz_3 ag_3 by_3 ze_3 un_3 oz_3 ea_3 bs_3 is_3 sz_4 ag_4 by_4 ze_4 un_4 bqe_4 bqn_4 oz_4 ea_4 bs_4 is_4 sz_5 ag_5 by_5 ze_5 un_5 oz_5 ea_5 bs_5 is_5 sz_7 ag_7 by_7 ze_7 fo_7_0 fo_7_1 fo_7_2 fo_7_3 pl_7 bl_7 oz_7 ea_7 bs_7 is_7 sz_9 ag_9 by_9 ze_9 un_9 lps_9 ixs_9 oz_9 ea_9 bs_9 is_9 sz_12 ag_12 by_12 ze_12 un_12 oz_12 ea_12 bs_12 is_12 sz_13 ag_13 by_13 ze_13 fo_13_0 fo_13_1 pl_13 bl_13 oz_13 ea_13 bs_13 is_13 sz_21 ag_21 by_21 ze_21 un_21 oz_21 ea_21 bs_21 is_21 sz_38 ag_38 by_38 ze_38 fo_38_0 fo_38_1 pl_38 bl_38 oz_38 ea_38 bs_38 is_38 sz_39 ag_39 by_39 ze_39 fo_39_0 fo_39_1 pl_39 bl_39 oz_39 ea_39 sqeql_39 sqneq_39 bs_39 is_39 sz_49 ag_49 by_49 ze_49 fo_49_0 fo_49_1 fo_49_2 fo_49_3 pl_49 bl_49 oz_49 ea_49 bs_49 is_49 sz_50 ag_50 by_50 ze_50 fo_50_0 fo_50_1 fo_50_2 fo_50_3 pl_50 bl_50 oz_50 ea_50 sqeql_50 sqneq_50 bs_50 is_50 sz_53 ag_53 by_53 ze_53 fo_53_0 fo_53_1 pl_53 bl_53 oz_53 ea_53 bs_53 is_53 sz_54 ag_54 by_54 ze_54 fo_54_0 fo_54_1 pl_54 bl_54 oz_54 ea_54 bs_54 is_54 sz_60 ag_60 by_60 ze_60 un_60 oz_60 ea_60 bs_60 is_60 sz_64 ag_64 by_64 ze_64 un_64 ixa_64 ixp_64 bl_64 oz_64 ea_64 bs_64 is_64 sz_79 ag_79 by_79 ze_79 un_79 oz_79 ea_79 bs_79 is_79 sz_88 ag_88 by_88 ze_88 un_88 oz_88 ea_88 bs_88 is_88 sz_90 ag_90 by_90 ze_90 un_90 oz_90 ea_90 bs_90 is_90 sz_105 ag_105 by_105 ze_105 un_105 oz_105 ea_105 bs_105 is_105 sz_138 ag_138 by_138 ze_138 un_138 oz_138 ea_138 bs_138 is_138 sz_143 ag_143 by_143 ze_143 fo_143_0 fo_143_1 pl_143 bl_143 oz_143 ea_143 bs_143 is_143 sz_144 ag_144 by_144 ze_144 fo_144_0 fo_144_1 pl_144 bl_144 oz_144 ea_144 bs_144 is_144 sz_145 ag_145 by_145 ze_145 un_145 oz_145 ea_145 bs_145 is_145 sz_150 ag_150 by_150 ze_150 fo_150_0 pl_150 bl_150 oz_150 ea_150 bs_150 is_150 sz_151 ag_151 by_151 ze_151 fo_151_0 pl_151 bl_151 oz_151 ea_151 bs_151 is_151 sz_153 ag_153 by_153 ze_153 un_153 oz_153 ea_153 bs_153 is_153 sz_155 ag_155 by_155 ze_155 un_155 oz_155 ea_155 bs_155 is_155 sz_156 ag_156 by_156 ze_156 un_156 oz_156 ea_156 bs_156 is_156 sz_22 ag_22 by_22 ze_22 un_22 el_22 ix_22 ixr_22 sl_22 slr_22 sle_22 lpl_22 lpr_22 lpn_22 oz_22 ea_22 em_22 eap_22 ecp_22 bs_22 is_22 sz_23 ag_23 by_23 ze_23 un_23 el_23 ix_23 ixr_23 sl_23 slr_23 sle_23 lpl_23 lpr_23 lpn_23 oz_23 ea_23 em_23 eap_23 ecp_23 bs_23 is_23 sz_25 ag_25 by_25 ze_25 un_25 el_25 ix_25 ixr_25 sl_25 slr_25 sle_25 lpl_25 lpr_25 lpn_25 oz_25 ea_25 em_25 eap_25 ecp_25 bs_25 is_25 sz_28 ag_28 by_28 ze_28 un_28 el_28 ix_28 ixr_28 sl_28 slr_28 sle_28 lpl_28 lpr_28 lpn_28 oz_28 ea_28 em_28 eap_28 ecp_28 bs_28 is_28 sz_62 ag_62 by_62 ze_62 un_62 el_62 ix_62 ixr_62 sl_62 slr_62 sle_62 lpl_62 lpr_62 lpn_62 oz_62 ea_62 em_62 eap_62 ecp_62 bs_62 is_62 cvi_2_2 cvi_2_3 cvi_2_5 cvi_2_12 cvi_2_21 cvi_2_60 cvi_2_79 cvi_2_88 cvi_2_90 cvi_2_105 cvi_3_2 cvi_3_3 cvi_3_5 cvi_3_12 cvi_3_21 cvi_3_60 cvi_3_79 cvi_3_88 cvi_3_90 cvi_3_105 cvi_5_2 cvi_5_3 cvi_5_5 cvi_5_12 cvi_5_21 cvi_5_60 cvi_5_79 cvi_5_88 cvi_5_90 cvi_5_105 cvi_12_2 cvi_12_3 cvi_12_5 cvi_12_12 cvi_12_21 cvi_12_60 cvi_12_79 cvi_12_88 cvi_12_90 cvi_12_105 cvi_21_2 cvi_21_3 cvi_21_5 cvi_21_12 cvi_21_21 cvi_21_60 cvi_21_79 cvi_21_88 cvi_21_90 cvi_21_105 cvi_60_2 cvi_60_3 cvi_60_5 cvi_60_12 cvi_60_21 cvi_60_60 cvi_60_79 cvi_60_88 cvi_60_90 cvi_60_105 cvi_79_2 cvi_79_3 cvi_79_5 cvi_79_12 cvi_79_21 cvi_79_60 cvi_79_79 cvi_79_88 cvi_79_90 cvi_79_105 cvi_88_2 cvi_88_3 cvi_88_5 cvi_88_12 cvi_88_21 cvi_88_60 cvi_88_79 cvi_88_88 cvi_88_90 cvi_88_105 cvi_90_2 cvi_90_3 cvi_90_5 cvi_90_12 cvi_90_21 cvi_90_60 cvi_90_79 cvi_90_88 cvi_90_90 cvi_90_105 cvi_105_2 cvi_105_3 cvi_105_5 cvi_105_12 cvi_105_21 cvi_105_60 cvi_105_79 cvi_105_88 cvi_105_90 cvi_105_105 rw_22_1 rw_23_0 rw_23_1 rw_23_3 rw_25_0 rw_25_1 rw_25_5 rw_28_0 rw_28_1 rw_62_1
end Go.Proofs.YtpggpdbipajchaaGreatDoor
