/- Facts on the types of this seat, each reckoned by the kernel. -/
import Derived.Test.YtghhlakfbgcmkaaDoorProg
import Derived.Test.YtghhlakfbgcmkaaDoorPxW
namespace Go.Proofs.YtghhlakfbgcmkaaDoor
open Go.RowKit
set_option linter.all false
theorem sz_2 : tySize Tryd.prog 2 = some 1 := by kernel_rfl
theorem ag_2 : tyAgg Tryd.prog 2 = some false := by kernel_rfl
theorem by_2 : tyBytes Tryd.prog 2 = some 8 := by kernel_rfl
theorem ze_2 : zeroOf Tryd.prog 2 = some (.int .i64 0) := by kernel_rfl
theorem un_2 : Tryd.prog.underlying 2 = some (.int .i64) := by kernel_rfl
theorem oz_2 : ofVal (.int .i64 0) = .val (.int .i64 0) := rfl
theorem ea_2 {Γ : Ctx} (s : AS) (ρ : Operand → PV) : evEff Tryd.prog Γ s ρ (.alloc 2) = some (.own s.nx 1 0 0, upd s.ob s.nx (some (2, 1, [.val (.int .i64 0)])), s.nx + 1) := ea_of ze_2 (by kernel_rfl) rfl rfl s ρ
theorem bs_2 : isByteSlice Tryd.prog 2 = false := by kernel_rfl
theorem is_2 : isStr Tryd.prog 2 = false := by kernel_rfl
theorem sz_3 : tySize Tryd.prog 3 = some 1 := by kernel_rfl
theorem ag_3 : tyAgg Tryd.prog 3 = some false := by kernel_rfl
theorem by_3 : tyBytes Tryd.prog 3 = some 8 := by kernel_rfl
theorem ze_3 : zeroOf Tryd.prog 3 = some (.int .i64 0) := by kernel_rfl
theorem un_3 : Tryd.prog.underlying 3 = some (.int .i64) := by kernel_rfl
theorem oz_3 : ofVal (.int .i64 0) = .val (.int .i64 0) := rfl
theorem ea_3 {Γ : Ctx} (s : AS) (ρ : Operand → PV) : evEff Tryd.prog Γ s ρ (.alloc 3) = some (.own s.nx 1 0 0, upd s.ob s.nx (some (3, 1, [.val (.int .i64 0)])), s.nx + 1) := ea_of ze_3 (by kernel_rfl) rfl rfl s ρ
theorem bs_3 : isByteSlice Tryd.prog 3 = false := by kernel_rfl
theorem is_3 : isStr Tryd.prog 3 = false := by kernel_rfl
theorem sz_4 : tySize Tryd.prog 4 = some 1 := by kernel_rfl
theorem ag_4 : tyAgg Tryd.prog 4 = some false := by kernel_rfl
theorem by_4 : tyBytes Tryd.prog 4 = some 1 := by kernel_rfl
theorem ze_4 : zeroOf Tryd.prog 4 = some (.bool false) := by kernel_rfl
theorem un_4 : Tryd.prog.underlying 4 = some .bool := by kernel_rfl
theorem bqe_4 {x y : Operand} {a b : Bool} : binP Tryd.prog .eql 4 x y (some (.bool a)) (some (.bool b)) = some (.val (.bool (a == b))) := bp_eqlB un_4
theorem bqn_4 {x y : Operand} {a b : Bool} : binP Tryd.prog .neq 4 x y (some (.bool a)) (some (.bool b)) = some (.val (.bool (!(a == b)))) := bp_neqB un_4
theorem oz_4 : ofVal (.bool false) = .val (.bool false) := rfl
theorem ea_4 {Γ : Ctx} (s : AS) (ρ : Operand → PV) : evEff Tryd.prog Γ s ρ (.alloc 4) = some (.own s.nx 1 0 0, upd s.ob s.nx (some (4, 1, [.val (.bool false)])), s.nx + 1) := ea_of ze_4 (by kernel_rfl) rfl rfl s ρ
theorem bs_4 : isByteSlice Tryd.prog 4 = false := by kernel_rfl
theorem is_4 : isStr Tryd.prog 4 = false := by kernel_rfl
theorem sz_5 : tySize Tryd.prog 5 = some 1 := by kernel_rfl
theorem ag_5 : tyAgg Tryd.prog 5 = some false := by kernel_rfl
theorem by_5 : tyBytes Tryd.prog 5 = some 1 := by kernel_rfl
theorem ze_5 : zeroOf Tryd.prog 5 = some (.int .u8 0) := by kernel_rfl
theorem un_5 : Tryd.prog.underlying 5 = some (.int .u8) := by kernel_rfl
theorem oz_5 : ofVal (.int .u8 0) = .val (.int .u8 0) := rfl
theorem ea_5 {Γ : Ctx} (s : AS) (ρ : Operand → PV) : evEff Tryd.prog Γ s ρ (.alloc 5) = some (.own s.nx 1 0 0, upd s.ob s.nx (some (5, 1, [.val (.int .u8 0)])), s.nx + 1) := ea_of ze_5 (by kernel_rfl) rfl rfl s ρ
theorem bs_5 : isByteSlice Tryd.prog 5 = false := by kernel_rfl
theorem is_5 : isStr Tryd.prog 5 = false := by kernel_rfl
theorem sz_7 : tySize Tryd.prog 7 = some 4 := by kernel_rfl
theorem ag_7 : tyAgg Tryd.prog 7 = some true := by kernel_rfl
theorem by_7 : tyBytes Tryd.prog 7 = some 24 := by kernel_rfl
theorem ze_7 : zeroOf Tryd.prog 7 = some (.agg #[.int .i64 0, .int .i64 0, .bool false, .int .u8 0]) := by kernel_rfl
theorem fo_7_0 : fieldOff Tryd.prog 7 0 = some 0 := by kernel_rfl
theorem fo_7_1 : fieldOff Tryd.prog 7 1 = some 1 := by kernel_rfl
theorem fo_7_2 : fieldOff Tryd.prog 7 2 = some 2 := by kernel_rfl
theorem fo_7_3 : fieldOff Tryd.prog 7 3 = some 3 := by kernel_rfl
theorem pl_7 : structPlaces Tryd.prog 7 = some #[(0, 1), (1, 1), (2, 1), (3, 1)] := by kernel_rfl
theorem bl_7 (ps : List (Nat × PV)) : evBuild Tryd.prog 7 ps = (fillP (plF [(0, 1), (1, 1), (2, 1), (3, 1)]) [.val (.int .i64 0), .val (.int .i64 0), .val (.bool false), .val (.int .u8 0)] ps).map .agg := bl_of ze_7 rfl pl_7 ps
theorem oz_7 : ofVal (.agg #[.int .i64 0, .int .i64 0, .bool false, .int .u8 0]) = .agg [.val (.int .i64 0), .val (.int .i64 0), .val (.bool false), .val (.int .u8 0)] := rfl
theorem ea_7 {Γ : Ctx} (s : AS) (ρ : Operand → PV) : evEff Tryd.prog Γ s ρ (.alloc 7) = some (.own s.nx 4 0 0, upd s.ob s.nx (some (7, 4, [.agg [.val (.int .i64 0), .val (.int .i64 0), .val (.bool false), .val (.int .u8 0)]])), s.nx + 1) := ea_of ze_7 (by kernel_rfl) rfl rfl s ρ
theorem bz_7 {Γ : Ctx} {ob : Objs} {ρ : Operand → PV} {ty : Nat} : evVal Tryd.prog Γ ob ρ ty (.build 7 #[]) = some (.agg [.val (.int .i64 0), .val (.int .i64 0), .val (.bool false), .val (.int .u8 0)]) := (show evBuild Tryd.prog 7 [] = some (.agg [.val (.int .i64 0), .val (.int .i64 0), .val (.bool false), .val (.int .u8 0)]) from by kernel_rfl)
theorem bs_7 : isByteSlice Tryd.prog 7 = false := by kernel_rfl
theorem is_7 : isStr Tryd.prog 7 = false := by kernel_rfl
theorem sz_9 : tySize Tryd.prog 9 = some 1 := by kernel_rfl
theorem ag_9 : tyAgg Tryd.prog 9 = some false := by kernel_rfl
theorem by_9 : tyBytes Tryd.prog 9 = some 16 := by kernel_rfl
theorem ze_9 : zeroOf Tryd.prog 9 = some (.string ByteArray.empty) := by kernel_rfl
theorem un_9 : Tryd.prog.underlying 9 = some .string := by kernel_rfl
theorem lps_9 {ty : Nat} {s : ByteArray} : lenP Tryd.prog 9 ty (.val (.string s)) = some (.val (.int .i64 s.size)) := lp_str un_9
theorem ixs_9 {s : ByteArray} {i : Int} (h0 : 0 ≤ i) (h1 : i < s.size) : idxP Tryd.prog 9 (some (.string s)) (some (.int .i64 i)) = some (.val (.int .u8 (at8 s i.toNat))) := ix_str un_9 h0 h1
theorem oz_9 : ofVal (.string ByteArray.empty) = .val (.string ByteArray.empty) := rfl
theorem ea_9 {Γ : Ctx} (s : AS) (ρ : Operand → PV) : evEff Tryd.prog Γ s ρ (.alloc 9) = some (.own s.nx 1 0 0, upd s.ob s.nx (some (9, 1, [.val (.string ByteArray.empty)])), s.nx + 1) := ea_of ze_9 (by kernel_rfl) rfl rfl s ρ
theorem bs_9 : isByteSlice Tryd.prog 9 = false := by kernel_rfl
theorem is_9 : isStr Tryd.prog 9 = true := by kernel_rfl
theorem sz_12 : tySize Tryd.prog 12 = some 1 := by kernel_rfl
theorem ag_12 : tyAgg Tryd.prog 12 = some false := by kernel_rfl
theorem by_12 : tyBytes Tryd.prog 12 = some 8 := by kernel_rfl
theorem ze_12 : zeroOf Tryd.prog 12 = some (.int .u64 0) := by kernel_rfl
theorem un_12 : Tryd.prog.underlying 12 = some (.int .u64) := by kernel_rfl
theorem oz_12 : ofVal (.int .u64 0) = .val (.int .u64 0) := rfl
theorem ea_12 {Γ : Ctx} (s : AS) (ρ : Operand → PV) : evEff Tryd.prog Γ s ρ (.alloc 12) = some (.own s.nx 1 0 0, upd s.ob s.nx (some (12, 1, [.val (.int .u64 0)])), s.nx + 1) := ea_of ze_12 (by kernel_rfl) rfl rfl s ρ
theorem bs_12 : isByteSlice Tryd.prog 12 = false := by kernel_rfl
theorem is_12 : isStr Tryd.prog 12 = false := by kernel_rfl
theorem sz_13 : tySize Tryd.prog 13 = some 2 := by kernel_rfl
theorem ag_13 : tyAgg Tryd.prog 13 = some true := by kernel_rfl
theorem by_13 : tyBytes Tryd.prog 13 = some 24 := by kernel_rfl
theorem ze_13 : zeroOf Tryd.prog 13 = some (.agg #[.string ByteArray.empty, .int .u64 0]) := by kernel_rfl
theorem fo_13_0 : fieldOff Tryd.prog 13 0 = some 0 := by kernel_rfl
theorem fo_13_1 : fieldOff Tryd.prog 13 1 = some 1 := by kernel_rfl
theorem pl_13 : structPlaces Tryd.prog 13 = some #[(0, 1), (1, 1)] := by kernel_rfl
theorem bl_13 (ps : List (Nat × PV)) : evBuild Tryd.prog 13 ps = (fillP (plF [(0, 1), (1, 1)]) [.val (.string ByteArray.empty), .val (.int .u64 0)] ps).map .agg := bl_of ze_13 rfl pl_13 ps
theorem oz_13 : ofVal (.agg #[.string ByteArray.empty, .int .u64 0]) = .agg [.val (.string ByteArray.empty), .val (.int .u64 0)] := rfl
theorem ea_13 {Γ : Ctx} (s : AS) (ρ : Operand → PV) : evEff Tryd.prog Γ s ρ (.alloc 13) = some (.own s.nx 2 0 0, upd s.ob s.nx (some (13, 2, [.agg [.val (.string ByteArray.empty), .val (.int .u64 0)]])), s.nx + 1) := ea_of ze_13 (by kernel_rfl) rfl rfl s ρ
theorem bz_13 {Γ : Ctx} {ob : Objs} {ρ : Operand → PV} {ty : Nat} : evVal Tryd.prog Γ ob ρ ty (.build 13 #[]) = some (.agg [.val (.string ByteArray.empty), .val (.int .u64 0)]) := (show evBuild Tryd.prog 13 [] = some (.agg [.val (.string ByteArray.empty), .val (.int .u64 0)]) from by kernel_rfl)
theorem bs_13 : isByteSlice Tryd.prog 13 = false := by kernel_rfl
theorem is_13 : isStr Tryd.prog 13 = false := by kernel_rfl
theorem sz_21 : tySize Tryd.prog 21 = some 1 := by kernel_rfl
theorem ag_21 : tyAgg Tryd.prog 21 = some false := by kernel_rfl
theorem by_21 : tyBytes Tryd.prog 21 = some 4 := by kernel_rfl
theorem ze_21 : zeroOf Tryd.prog 21 = some (.int .i32 0) := by kernel_rfl
theorem un_21 : Tryd.prog.underlying 21 = some (.int .i32) := by kernel_rfl
theorem oz_21 : ofVal (.int .i32 0) = .val (.int .i32 0) := rfl
theorem ea_21 {Γ : Ctx} (s : AS) (ρ : Operand → PV) : evEff Tryd.prog Γ s ρ (.alloc 21) = some (.own s.nx 1 0 0, upd s.ob s.nx (some (21, 1, [.val (.int .i32 0)])), s.nx + 1) := ea_of ze_21 (by kernel_rfl) rfl rfl s ρ
theorem bs_21 : isByteSlice Tryd.prog 21 = false := by kernel_rfl
theorem is_21 : isStr Tryd.prog 21 = false := by kernel_rfl
theorem sz_39 : tySize Tryd.prog 39 = some 3 := by kernel_rfl
theorem ag_39 : tyAgg Tryd.prog 39 = some true := by kernel_rfl
theorem by_39 : tyBytes Tryd.prog 39 = some 24 := by kernel_rfl
theorem ze_39 : zeroOf Tryd.prog 39 = some (.agg #[.int .i64 0, .int .i64 0, .int .i64 0]) := by kernel_rfl
theorem fo_39_0 : fieldOff Tryd.prog 39 0 = some 0 := by kernel_rfl
theorem fo_39_1 : fieldOff Tryd.prog 39 1 = some 1 := by kernel_rfl
theorem fo_39_2 : fieldOff Tryd.prog 39 2 = some 2 := by kernel_rfl
theorem pl_39 : structPlaces Tryd.prog 39 = some #[(0, 1), (1, 1), (2, 1)] := by kernel_rfl
theorem bl_39 (ps : List (Nat × PV)) : evBuild Tryd.prog 39 ps = (fillP (plF [(0, 1), (1, 1), (2, 1)]) [.val (.int .i64 0), .val (.int .i64 0), .val (.int .i64 0)] ps).map .agg := bl_of ze_39 rfl pl_39 ps
theorem oz_39 : ofVal (.agg #[.int .i64 0, .int .i64 0, .int .i64 0]) = .agg [.val (.int .i64 0), .val (.int .i64 0), .val (.int .i64 0)] := rfl
theorem ea_39 {Γ : Ctx} (s : AS) (ρ : Operand → PV) : evEff Tryd.prog Γ s ρ (.alloc 39) = some (.own s.nx 3 0 0, upd s.ob s.nx (some (39, 3, [.agg [.val (.int .i64 0), .val (.int .i64 0), .val (.int .i64 0)]])), s.nx + 1) := ea_of ze_39 (by kernel_rfl) rfl rfl s ρ
theorem bz_39 {Γ : Ctx} {ob : Objs} {ρ : Operand → PV} {ty : Nat} : evVal Tryd.prog Γ ob ρ ty (.build 39 #[]) = some (.agg [.val (.int .i64 0), .val (.int .i64 0), .val (.int .i64 0)]) := (show evBuild Tryd.prog 39 [] = some (.agg [.val (.int .i64 0), .val (.int .i64 0), .val (.int .i64 0)]) from by kernel_rfl)
theorem bs_39 : isByteSlice Tryd.prog 39 = false := by kernel_rfl
theorem is_39 : isStr Tryd.prog 39 = false := by kernel_rfl
theorem sz_40 : tySize Tryd.prog 40 = some 3 := by kernel_rfl
theorem ag_40 : tyAgg Tryd.prog 40 = some true := by kernel_rfl
theorem by_40 : tyBytes Tryd.prog 40 = some 24 := by kernel_rfl
theorem ze_40 : zeroOf Tryd.prog 40 = some (.agg #[.int .i64 0, .int .i64 0, .int .i64 0]) := by kernel_rfl
theorem fo_40_0 : fieldOff Tryd.prog 40 0 = some 0 := by kernel_rfl
theorem fo_40_1 : fieldOff Tryd.prog 40 1 = some 1 := by kernel_rfl
theorem fo_40_2 : fieldOff Tryd.prog 40 2 = some 2 := by kernel_rfl
theorem pl_40 : structPlaces Tryd.prog 40 = some #[(0, 1), (1, 1), (2, 1)] := by kernel_rfl
theorem bl_40 (ps : List (Nat × PV)) : evBuild Tryd.prog 40 ps = (fillP (plF [(0, 1), (1, 1), (2, 1)]) [.val (.int .i64 0), .val (.int .i64 0), .val (.int .i64 0)] ps).map .agg := bl_of ze_40 rfl pl_40 ps
theorem oz_40 : ofVal (.agg #[.int .i64 0, .int .i64 0, .int .i64 0]) = .agg [.val (.int .i64 0), .val (.int .i64 0), .val (.int .i64 0)] := rfl
theorem ea_40 {Γ : Ctx} (s : AS) (ρ : Operand → PV) : evEff Tryd.prog Γ s ρ (.alloc 40) = some (.own s.nx 3 0 0, upd s.ob s.nx (some (40, 3, [.agg [.val (.int .i64 0), .val (.int .i64 0), .val (.int .i64 0)]])), s.nx + 1) := ea_of ze_40 (by kernel_rfl) rfl rfl s ρ
theorem bz_40 {Γ : Ctx} {ob : Objs} {ρ : Operand → PV} {ty : Nat} : evVal Tryd.prog Γ ob ρ ty (.build 40 #[]) = some (.agg [.val (.int .i64 0), .val (.int .i64 0), .val (.int .i64 0)]) := (show evBuild Tryd.prog 40 [] = some (.agg [.val (.int .i64 0), .val (.int .i64 0), .val (.int .i64 0)]) from by kernel_rfl)
theorem fd_40 : Tryd.prog.underlying 40 = some (.struct (Go.Program.fieldsOf Tryd.prog 40)) := by kernel_rfl
theorem ef_40 {a0 b0 : Int} {a1 b1 : Int} {a2 b2 : Int} : eqFl Tryd.prog [.int .i64 a0, .int .i64 a1, .int .i64 a2] [.int .i64 b0, .int .i64 b1, .int .i64 b2] (Go.Program.fieldsOf Tryd.prog 40).toList = some ((a0 == b0) && ((a1 == b1) && ((a2 == b2) && true))) := by kernel_rfl
theorem sqeql_40 {x y : Operand} {a0 b0 : Int} {a1 b1 : Int} {a2 b2 : Int} : binP Tryd.prog .eql 40 x y (some (.agg #[.int .i64 a0, .int .i64 a1, .int .i64 a2])) (some (.agg #[.int .i64 b0, .int .i64 b1, .int .i64 b2])) = some (.val (.bool ((a0 == b0) && ((a1 == b1) && ((a2 == b2) && true))))) := bp_eqlA fd_40 (by kernel_rfl) (by kernel_rfl) ef_40
theorem sqneq_40 {x y : Operand} {a0 b0 : Int} {a1 b1 : Int} {a2 b2 : Int} : binP Tryd.prog .neq 40 x y (some (.agg #[.int .i64 a0, .int .i64 a1, .int .i64 a2])) (some (.agg #[.int .i64 b0, .int .i64 b1, .int .i64 b2])) = some (.val (.bool (!((a0 == b0) && ((a1 == b1) && ((a2 == b2) && true)))))) := bp_neqA fd_40 (by kernel_rfl) (by kernel_rfl) ef_40
theorem bs_40 : isByteSlice Tryd.prog 40 = false := by kernel_rfl
theorem is_40 : isStr Tryd.prog 40 = false := by kernel_rfl
theorem sz_52 : tySize Tryd.prog 52 = some 3 := by kernel_rfl
theorem ag_52 : tyAgg Tryd.prog 52 = some true := by kernel_rfl
theorem by_52 : tyBytes Tryd.prog 52 = some 24 := by kernel_rfl
theorem ze_52 : zeroOf Tryd.prog 52 = some (.agg #[.int .i64 0, .int .i64 0, .int .i64 0]) := by kernel_rfl
theorem fo_52_0 : fieldOff Tryd.prog 52 0 = some 0 := by kernel_rfl
theorem fo_52_1 : fieldOff Tryd.prog 52 1 = some 1 := by kernel_rfl
theorem fo_52_2 : fieldOff Tryd.prog 52 2 = some 2 := by kernel_rfl
theorem pl_52 : structPlaces Tryd.prog 52 = some #[(0, 1), (1, 1), (2, 1)] := by kernel_rfl
theorem bl_52 (ps : List (Nat × PV)) : evBuild Tryd.prog 52 ps = (fillP (plF [(0, 1), (1, 1), (2, 1)]) [.val (.int .i64 0), .val (.int .i64 0), .val (.int .i64 0)] ps).map .agg := bl_of ze_52 rfl pl_52 ps
theorem oz_52 : ofVal (.agg #[.int .i64 0, .int .i64 0, .int .i64 0]) = .agg [.val (.int .i64 0), .val (.int .i64 0), .val (.int .i64 0)] := rfl
theorem ea_52 {Γ : Ctx} (s : AS) (ρ : Operand → PV) : evEff Tryd.prog Γ s ρ (.alloc 52) = some (.own s.nx 3 0 0, upd s.ob s.nx (some (52, 3, [.agg [.val (.int .i64 0), .val (.int .i64 0), .val (.int .i64 0)]])), s.nx + 1) := ea_of ze_52 (by kernel_rfl) rfl rfl s ρ
theorem bz_52 {Γ : Ctx} {ob : Objs} {ρ : Operand → PV} {ty : Nat} : evVal Tryd.prog Γ ob ρ ty (.build 52 #[]) = some (.agg [.val (.int .i64 0), .val (.int .i64 0), .val (.int .i64 0)]) := (show evBuild Tryd.prog 52 [] = some (.agg [.val (.int .i64 0), .val (.int .i64 0), .val (.int .i64 0)]) from by kernel_rfl)
theorem fd_52 : Tryd.prog.underlying 52 = some (.struct (Go.Program.fieldsOf Tryd.prog 52)) := by kernel_rfl
theorem ef_52 {a0 b0 : Int} {a1 b1 : Int} {a2 b2 : Int} : eqFl Tryd.prog [.int .i64 a0, .int .i64 a1, .int .i64 a2] [.int .i64 b0, .int .i64 b1, .int .i64 b2] (Go.Program.fieldsOf Tryd.prog 52).toList = some ((a0 == b0) && ((a1 == b1) && ((a2 == b2) && true))) := by kernel_rfl
theorem sqeql_52 {x y : Operand} {a0 b0 : Int} {a1 b1 : Int} {a2 b2 : Int} : binP Tryd.prog .eql 52 x y (some (.agg #[.int .i64 a0, .int .i64 a1, .int .i64 a2])) (some (.agg #[.int .i64 b0, .int .i64 b1, .int .i64 b2])) = some (.val (.bool ((a0 == b0) && ((a1 == b1) && ((a2 == b2) && true))))) := bp_eqlA fd_52 (by kernel_rfl) (by kernel_rfl) ef_52
theorem sqneq_52 {x y : Operand} {a0 b0 : Int} {a1 b1 : Int} {a2 b2 : Int} : binP Tryd.prog .neq 52 x y (some (.agg #[.int .i64 a0, .int .i64 a1, .int .i64 a2])) (some (.agg #[.int .i64 b0, .int .i64 b1, .int .i64 b2])) = some (.val (.bool (!((a0 == b0) && ((a1 == b1) && ((a2 == b2) && true)))))) := bp_neqA fd_52 (by kernel_rfl) (by kernel_rfl) ef_52
theorem bs_52 : isByteSlice Tryd.prog 52 = false := by kernel_rfl
theorem is_52 : isStr Tryd.prog 52 = false := by kernel_rfl
theorem sz_59 : tySize Tryd.prog 59 = some 4 := by kernel_rfl
theorem ag_59 : tyAgg Tryd.prog 59 = some true := by kernel_rfl
theorem by_59 : tyBytes Tryd.prog 59 = some 32 := by kernel_rfl
theorem ze_59 : zeroOf Tryd.prog 59 = some (.agg #[.int .i64 0, .int .i64 0, .int .i64 0, .int .i64 0]) := by kernel_rfl
theorem fo_59_0 : fieldOff Tryd.prog 59 0 = some 0 := by kernel_rfl
theorem fo_59_1 : fieldOff Tryd.prog 59 1 = some 1 := by kernel_rfl
theorem fo_59_2 : fieldOff Tryd.prog 59 2 = some 2 := by kernel_rfl
theorem fo_59_3 : fieldOff Tryd.prog 59 3 = some 3 := by kernel_rfl
theorem pl_59 : structPlaces Tryd.prog 59 = some #[(0, 1), (1, 1), (2, 1), (3, 1)] := by kernel_rfl
theorem bl_59 (ps : List (Nat × PV)) : evBuild Tryd.prog 59 ps = (fillP (plF [(0, 1), (1, 1), (2, 1), (3, 1)]) [.val (.int .i64 0), .val (.int .i64 0), .val (.int .i64 0), .val (.int .i64 0)] ps).map .agg := bl_of ze_59 rfl pl_59 ps
theorem oz_59 : ofVal (.agg #[.int .i64 0, .int .i64 0, .int .i64 0, .int .i64 0]) = .agg [.val (.int .i64 0), .val (.int .i64 0), .val (.int .i64 0), .val (.int .i64 0)] := rfl
theorem ea_59 {Γ : Ctx} (s : AS) (ρ : Operand → PV) : evEff Tryd.prog Γ s ρ (.alloc 59) = some (.own s.nx 4 0 0, upd s.ob s.nx (some (59, 4, [.agg [.val (.int .i64 0), .val (.int .i64 0), .val (.int .i64 0), .val (.int .i64 0)]])), s.nx + 1) := ea_of ze_59 (by kernel_rfl) rfl rfl s ρ
theorem bz_59 {Γ : Ctx} {ob : Objs} {ρ : Operand → PV} {ty : Nat} : evVal Tryd.prog Γ ob ρ ty (.build 59 #[]) = some (.agg [.val (.int .i64 0), .val (.int .i64 0), .val (.int .i64 0), .val (.int .i64 0)]) := (show evBuild Tryd.prog 59 [] = some (.agg [.val (.int .i64 0), .val (.int .i64 0), .val (.int .i64 0), .val (.int .i64 0)]) from by kernel_rfl)
theorem bs_59 : isByteSlice Tryd.prog 59 = false := by kernel_rfl
theorem is_59 : isStr Tryd.prog 59 = false := by kernel_rfl
theorem sz_60 : tySize Tryd.prog 60 = some 4 := by kernel_rfl
theorem ag_60 : tyAgg Tryd.prog 60 = some true := by kernel_rfl
theorem by_60 : tyBytes Tryd.prog 60 = some 32 := by kernel_rfl
theorem ze_60 : zeroOf Tryd.prog 60 = some (.agg #[.int .i64 0, .int .i64 0, .int .i64 0, .int .i64 0]) := by kernel_rfl
theorem fo_60_0 : fieldOff Tryd.prog 60 0 = some 0 := by kernel_rfl
theorem fo_60_1 : fieldOff Tryd.prog 60 1 = some 1 := by kernel_rfl
theorem fo_60_2 : fieldOff Tryd.prog 60 2 = some 2 := by kernel_rfl
theorem fo_60_3 : fieldOff Tryd.prog 60 3 = some 3 := by kernel_rfl
theorem pl_60 : structPlaces Tryd.prog 60 = some #[(0, 1), (1, 1), (2, 1), (3, 1)] := by kernel_rfl
theorem bl_60 (ps : List (Nat × PV)) : evBuild Tryd.prog 60 ps = (fillP (plF [(0, 1), (1, 1), (2, 1), (3, 1)]) [.val (.int .i64 0), .val (.int .i64 0), .val (.int .i64 0), .val (.int .i64 0)] ps).map .agg := bl_of ze_60 rfl pl_60 ps
theorem oz_60 : ofVal (.agg #[.int .i64 0, .int .i64 0, .int .i64 0, .int .i64 0]) = .agg [.val (.int .i64 0), .val (.int .i64 0), .val (.int .i64 0), .val (.int .i64 0)] := rfl
theorem ea_60 {Γ : Ctx} (s : AS) (ρ : Operand → PV) : evEff Tryd.prog Γ s ρ (.alloc 60) = some (.own s.nx 4 0 0, upd s.ob s.nx (some (60, 4, [.agg [.val (.int .i64 0), .val (.int .i64 0), .val (.int .i64 0), .val (.int .i64 0)]])), s.nx + 1) := ea_of ze_60 (by kernel_rfl) rfl rfl s ρ
theorem bz_60 {Γ : Ctx} {ob : Objs} {ρ : Operand → PV} {ty : Nat} : evVal Tryd.prog Γ ob ρ ty (.build 60 #[]) = some (.agg [.val (.int .i64 0), .val (.int .i64 0), .val (.int .i64 0), .val (.int .i64 0)]) := (show evBuild Tryd.prog 60 [] = some (.agg [.val (.int .i64 0), .val (.int .i64 0), .val (.int .i64 0), .val (.int .i64 0)]) from by kernel_rfl)
theorem fd_60 : Tryd.prog.underlying 60 = some (.struct (Go.Program.fieldsOf Tryd.prog 60)) := by kernel_rfl
theorem ef_60 {a0 b0 : Int} {a1 b1 : Int} {a2 b2 : Int} {a3 b3 : Int} : eqFl Tryd.prog [.int .i64 a0, .int .i64 a1, .int .i64 a2, .int .i64 a3] [.int .i64 b0, .int .i64 b1, .int .i64 b2, .int .i64 b3] (Go.Program.fieldsOf Tryd.prog 60).toList = some ((a0 == b0) && ((a1 == b1) && ((a2 == b2) && ((a3 == b3) && true)))) := by kernel_rfl
theorem sqeql_60 {x y : Operand} {a0 b0 : Int} {a1 b1 : Int} {a2 b2 : Int} {a3 b3 : Int} : binP Tryd.prog .eql 60 x y (some (.agg #[.int .i64 a0, .int .i64 a1, .int .i64 a2, .int .i64 a3])) (some (.agg #[.int .i64 b0, .int .i64 b1, .int .i64 b2, .int .i64 b3])) = some (.val (.bool ((a0 == b0) && ((a1 == b1) && ((a2 == b2) && ((a3 == b3) && true)))))) := bp_eqlA fd_60 (by kernel_rfl) (by kernel_rfl) ef_60
theorem sqneq_60 {x y : Operand} {a0 b0 : Int} {a1 b1 : Int} {a2 b2 : Int} {a3 b3 : Int} : binP Tryd.prog .neq 60 x y (some (.agg #[.int .i64 a0, .int .i64 a1, .int .i64 a2, .int .i64 a3])) (some (.agg #[.int .i64 b0, .int .i64 b1, .int .i64 b2, .int .i64 b3])) = some (.val (.bool (!((a0 == b0) && ((a1 == b1) && ((a2 == b2) && ((a3 == b3) && true))))))) := bp_neqA fd_60 (by kernel_rfl) (by kernel_rfl) ef_60
theorem bs_60 : isByteSlice Tryd.prog 60 = false := by kernel_rfl
theorem is_60 : isStr Tryd.prog 60 = false := by kernel_rfl
theorem sz_63 : tySize Tryd.prog 63 = some 2 := by kernel_rfl
theorem ag_63 : tyAgg Tryd.prog 63 = some true := by kernel_rfl
theorem by_63 : tyBytes Tryd.prog 63 = some 32 := by kernel_rfl
theorem ze_63 : zeroOf Tryd.prog 63 = some (.agg #[.slice none 0 0, .int .i64 0]) := by kernel_rfl
theorem fo_63_0 : fieldOff Tryd.prog 63 0 = some 0 := by kernel_rfl
theorem fo_63_1 : fieldOff Tryd.prog 63 1 = some 1 := by kernel_rfl
theorem pl_63 : structPlaces Tryd.prog 63 = some #[(0, 1), (1, 1)] := by kernel_rfl
theorem bl_63 (ps : List (Nat × PV)) : evBuild Tryd.prog 63 ps = (fillP (plF [(0, 1), (1, 1)]) [.val (.slice none 0 0), .val (.int .i64 0)] ps).map .agg := bl_of ze_63 rfl pl_63 ps
theorem oz_63 : ofVal (.agg #[.slice none 0 0, .int .i64 0]) = .agg [.val (.slice none 0 0), .val (.int .i64 0)] := rfl
theorem ea_63 {Γ : Ctx} (s : AS) (ρ : Operand → PV) : evEff Tryd.prog Γ s ρ (.alloc 63) = some (.own s.nx 2 0 0, upd s.ob s.nx (some (63, 2, [.agg [.val (.slice none 0 0), .val (.int .i64 0)]])), s.nx + 1) := ea_of ze_63 (by kernel_rfl) rfl rfl s ρ
theorem bz_63 {Γ : Ctx} {ob : Objs} {ρ : Operand → PV} {ty : Nat} : evVal Tryd.prog Γ ob ρ ty (.build 63 #[]) = some (.agg [.val (.slice none 0 0), .val (.int .i64 0)]) := (show evBuild Tryd.prog 63 [] = some (.agg [.val (.slice none 0 0), .val (.int .i64 0)]) from by kernel_rfl)
theorem bs_63 : isByteSlice Tryd.prog 63 = false := by kernel_rfl
theorem is_63 : isStr Tryd.prog 63 = false := by kernel_rfl
theorem sz_64 : tySize Tryd.prog 64 = some 2 := by kernel_rfl
theorem ag_64 : tyAgg Tryd.prog 64 = some true := by kernel_rfl
theorem by_64 : tyBytes Tryd.prog 64 = some 32 := by kernel_rfl
theorem ze_64 : zeroOf Tryd.prog 64 = some (.agg #[.slice none 0 0, .int .i64 0]) := by kernel_rfl
theorem fo_64_0 : fieldOff Tryd.prog 64 0 = some 0 := by kernel_rfl
theorem fo_64_1 : fieldOff Tryd.prog 64 1 = some 1 := by kernel_rfl
theorem pl_64 : structPlaces Tryd.prog 64 = some #[(0, 1), (1, 1)] := by kernel_rfl
theorem bl_64 (ps : List (Nat × PV)) : evBuild Tryd.prog 64 ps = (fillP (plF [(0, 1), (1, 1)]) [.val (.slice none 0 0), .val (.int .i64 0)] ps).map .agg := bl_of ze_64 rfl pl_64 ps
theorem oz_64 : ofVal (.agg #[.slice none 0 0, .int .i64 0]) = .agg [.val (.slice none 0 0), .val (.int .i64 0)] := rfl
theorem ea_64 {Γ : Ctx} (s : AS) (ρ : Operand → PV) : evEff Tryd.prog Γ s ρ (.alloc 64) = some (.own s.nx 2 0 0, upd s.ob s.nx (some (64, 2, [.agg [.val (.slice none 0 0), .val (.int .i64 0)]])), s.nx + 1) := ea_of ze_64 (by kernel_rfl) rfl rfl s ρ
theorem bz_64 {Γ : Ctx} {ob : Objs} {ρ : Operand → PV} {ty : Nat} : evVal Tryd.prog Γ ob ρ ty (.build 64 #[]) = some (.agg [.val (.slice none 0 0), .val (.int .i64 0)]) := (show evBuild Tryd.prog 64 [] = some (.agg [.val (.slice none 0 0), .val (.int .i64 0)]) from by kernel_rfl)
theorem bs_64 : isByteSlice Tryd.prog 64 = false := by kernel_rfl
theorem is_64 : isStr Tryd.prog 64 = false := by kernel_rfl
theorem sz_71 : tySize Tryd.prog 71 = some 24 := by kernel_rfl
theorem ag_71 : tyAgg Tryd.prog 71 = some true := by kernel_rfl
theorem by_71 : tyBytes Tryd.prog 71 = some 24 := by kernel_rfl
theorem ze_71 : zeroOf Tryd.prog 71 = some (.agg #[.int .u8 0, .int .u8 0, .int .u8 0, .int .u8 0, .int .u8 0, .int .u8 0, .int .u8 0, .int .u8 0, .int .u8 0, .int .u8 0, .int .u8 0, .int .u8 0, .int .u8 0, .int .u8 0, .int .u8 0, .int .u8 0, .int .u8 0, .int .u8 0, .int .u8 0, .int .u8 0, .int .u8 0, .int .u8 0, .int .u8 0, .int .u8 0]) := by kernel_rfl
theorem un_71 : Tryd.prog.underlying 71 = some (.array 24 5) := by kernel_rfl
theorem oz_71 : ofVal (.agg #[.int .u8 0, .int .u8 0, .int .u8 0, .int .u8 0, .int .u8 0, .int .u8 0, .int .u8 0, .int .u8 0, .int .u8 0, .int .u8 0, .int .u8 0, .int .u8 0, .int .u8 0, .int .u8 0, .int .u8 0, .int .u8 0, .int .u8 0, .int .u8 0, .int .u8 0, .int .u8 0, .int .u8 0, .int .u8 0, .int .u8 0, .int .u8 0]) = .agg [.val (.int .u8 0), .val (.int .u8 0), .val (.int .u8 0), .val (.int .u8 0), .val (.int .u8 0), .val (.int .u8 0), .val (.int .u8 0), .val (.int .u8 0), .val (.int .u8 0), .val (.int .u8 0), .val (.int .u8 0), .val (.int .u8 0), .val (.int .u8 0), .val (.int .u8 0), .val (.int .u8 0), .val (.int .u8 0), .val (.int .u8 0), .val (.int .u8 0), .val (.int .u8 0), .val (.int .u8 0), .val (.int .u8 0), .val (.int .u8 0), .val (.int .u8 0), .val (.int .u8 0)] := rfl
theorem ea_71 {Γ : Ctx} (s : AS) (ρ : Operand → PV) : evEff Tryd.prog Γ s ρ (.alloc 71) = some (.own s.nx 24 0 0, upd s.ob s.nx (some (71, 24, [.agg [.val (.int .u8 0), .val (.int .u8 0), .val (.int .u8 0), .val (.int .u8 0), .val (.int .u8 0), .val (.int .u8 0), .val (.int .u8 0), .val (.int .u8 0), .val (.int .u8 0), .val (.int .u8 0), .val (.int .u8 0), .val (.int .u8 0), .val (.int .u8 0), .val (.int .u8 0), .val (.int .u8 0), .val (.int .u8 0), .val (.int .u8 0), .val (.int .u8 0), .val (.int .u8 0), .val (.int .u8 0), .val (.int .u8 0), .val (.int .u8 0), .val (.int .u8 0), .val (.int .u8 0)]])), s.nx + 1) := ea_of ze_71 (by kernel_rfl) rfl rfl s ρ
theorem bs_71 : isByteSlice Tryd.prog 71 = false := by kernel_rfl
theorem is_71 : isStr Tryd.prog 71 = false := by kernel_rfl
theorem sz_72 : tySize Tryd.prog 72 = some 1 := by kernel_rfl
theorem ag_72 : tyAgg Tryd.prog 72 = some false := by kernel_rfl
theorem by_72 : tyBytes Tryd.prog 72 = some 8 := by kernel_rfl
theorem ze_72 : zeroOf Tryd.prog 72 = some (.int .u64 0) := by kernel_rfl
theorem un_72 : Tryd.prog.underlying 72 = some (.int .u64) := by kernel_rfl
theorem oz_72 : ofVal (.int .u64 0) = .val (.int .u64 0) := rfl
theorem ea_72 {Γ : Ctx} (s : AS) (ρ : Operand → PV) : evEff Tryd.prog Γ s ρ (.alloc 72) = some (.own s.nx 1 0 0, upd s.ob s.nx (some (72, 1, [.val (.int .u64 0)])), s.nx + 1) := ea_of ze_72 (by kernel_rfl) rfl rfl s ρ
theorem bs_72 : isByteSlice Tryd.prog 72 = false := by kernel_rfl
theorem is_72 : isStr Tryd.prog 72 = false := by kernel_rfl
theorem sz_78 : tySize Tryd.prog 78 = some 20 := by kernel_rfl
theorem ag_78 : tyAgg Tryd.prog 78 = some true := by kernel_rfl
theorem by_78 : tyBytes Tryd.prog 78 = some 160 := by kernel_rfl
theorem ze_78 : zeroOf Tryd.prog 78 = some (.agg #[.int .u64 0, .int .u64 0, .int .u64 0, .int .u64 0, .int .u64 0, .int .u64 0, .int .u64 0, .int .u64 0, .int .u64 0, .int .u64 0, .int .u64 0, .int .u64 0, .int .u64 0, .int .u64 0, .int .u64 0, .int .u64 0, .int .u64 0, .int .u64 0, .int .u64 0, .int .u64 0]) := by kernel_rfl
theorem un_78 : Tryd.prog.underlying 78 = some (.array 20 72) := by kernel_rfl
theorem oz_78 : ofVal (.agg #[.int .u64 0, .int .u64 0, .int .u64 0, .int .u64 0, .int .u64 0, .int .u64 0, .int .u64 0, .int .u64 0, .int .u64 0, .int .u64 0, .int .u64 0, .int .u64 0, .int .u64 0, .int .u64 0, .int .u64 0, .int .u64 0, .int .u64 0, .int .u64 0, .int .u64 0, .int .u64 0]) = .agg [.val (.int .u64 0), .val (.int .u64 0), .val (.int .u64 0), .val (.int .u64 0), .val (.int .u64 0), .val (.int .u64 0), .val (.int .u64 0), .val (.int .u64 0), .val (.int .u64 0), .val (.int .u64 0), .val (.int .u64 0), .val (.int .u64 0), .val (.int .u64 0), .val (.int .u64 0), .val (.int .u64 0), .val (.int .u64 0), .val (.int .u64 0), .val (.int .u64 0), .val (.int .u64 0), .val (.int .u64 0)] := rfl
theorem ea_78 {Γ : Ctx} (s : AS) (ρ : Operand → PV) : evEff Tryd.prog Γ s ρ (.alloc 78) = some (.own s.nx 20 0 0, upd s.ob s.nx (some (78, 20, [.agg [.val (.int .u64 0), .val (.int .u64 0), .val (.int .u64 0), .val (.int .u64 0), .val (.int .u64 0), .val (.int .u64 0), .val (.int .u64 0), .val (.int .u64 0), .val (.int .u64 0), .val (.int .u64 0), .val (.int .u64 0), .val (.int .u64 0), .val (.int .u64 0), .val (.int .u64 0), .val (.int .u64 0), .val (.int .u64 0), .val (.int .u64 0), .val (.int .u64 0), .val (.int .u64 0), .val (.int .u64 0)]])), s.nx + 1) := ea_of ze_78 (by kernel_rfl) rfl rfl s ρ
theorem bs_78 : isByteSlice Tryd.prog 78 = false := by kernel_rfl
theorem is_78 : isStr Tryd.prog 78 = false := by kernel_rfl
theorem sz_79 : tySize Tryd.prog 79 = some 1 := by kernel_rfl
theorem ag_79 : tyAgg Tryd.prog 79 = some false := by kernel_rfl
theorem by_79 : tyBytes Tryd.prog 79 = some 4 := by kernel_rfl
theorem ze_79 : zeroOf Tryd.prog 79 = some (.int .u32 0) := by kernel_rfl
theorem un_79 : Tryd.prog.underlying 79 = some (.int .u32) := by kernel_rfl
theorem oz_79 : ofVal (.int .u32 0) = .val (.int .u32 0) := rfl
theorem ea_79 {Γ : Ctx} (s : AS) (ρ : Operand → PV) : evEff Tryd.prog Γ s ρ (.alloc 79) = some (.own s.nx 1 0 0, upd s.ob s.nx (some (79, 1, [.val (.int .u32 0)])), s.nx + 1) := ea_of ze_79 (by kernel_rfl) rfl rfl s ρ
theorem bs_79 : isByteSlice Tryd.prog 79 = false := by kernel_rfl
theorem is_79 : isStr Tryd.prog 79 = false := by kernel_rfl
theorem sz_81 : tySize Tryd.prog 81 = some 1 := by kernel_rfl
theorem ag_81 : tyAgg Tryd.prog 81 = some false := by kernel_rfl
theorem by_81 : tyBytes Tryd.prog 81 = some 8 := by kernel_rfl
theorem ze_81 : zeroOf Tryd.prog 81 = some (.int .u64 0) := by kernel_rfl
theorem un_81 : Tryd.prog.underlying 81 = some (.int .u64) := by kernel_rfl
theorem oz_81 : ofVal (.int .u64 0) = .val (.int .u64 0) := rfl
theorem ea_81 {Γ : Ctx} (s : AS) (ρ : Operand → PV) : evEff Tryd.prog Γ s ρ (.alloc 81) = some (.own s.nx 1 0 0, upd s.ob s.nx (some (81, 1, [.val (.int .u64 0)])), s.nx + 1) := ea_of ze_81 (by kernel_rfl) rfl rfl s ρ
theorem bs_81 : isByteSlice Tryd.prog 81 = false := by kernel_rfl
theorem is_81 : isStr Tryd.prog 81 = false := by kernel_rfl
theorem sz_84 : tySize Tryd.prog 84 = some 32 := by kernel_rfl
theorem ag_84 : tyAgg Tryd.prog 84 = some true := by kernel_rfl
theorem by_84 : tyBytes Tryd.prog 84 = some 32 := by kernel_rfl
theorem ze_84 : zeroOf Tryd.prog 84 = some (.agg #[.int .u8 0, .int .u8 0, .int .u8 0, .int .u8 0, .int .u8 0, .int .u8 0, .int .u8 0, .int .u8 0, .int .u8 0, .int .u8 0, .int .u8 0, .int .u8 0, .int .u8 0, .int .u8 0, .int .u8 0, .int .u8 0, .int .u8 0, .int .u8 0, .int .u8 0, .int .u8 0, .int .u8 0, .int .u8 0, .int .u8 0, .int .u8 0, .int .u8 0, .int .u8 0, .int .u8 0, .int .u8 0, .int .u8 0, .int .u8 0, .int .u8 0, .int .u8 0]) := by kernel_rfl
theorem un_84 : Tryd.prog.underlying 84 = some (.array 32 5) := by kernel_rfl
theorem oz_84 : ofVal (.agg #[.int .u8 0, .int .u8 0, .int .u8 0, .int .u8 0, .int .u8 0, .int .u8 0, .int .u8 0, .int .u8 0, .int .u8 0, .int .u8 0, .int .u8 0, .int .u8 0, .int .u8 0, .int .u8 0, .int .u8 0, .int .u8 0, .int .u8 0, .int .u8 0, .int .u8 0, .int .u8 0, .int .u8 0, .int .u8 0, .int .u8 0, .int .u8 0, .int .u8 0, .int .u8 0, .int .u8 0, .int .u8 0, .int .u8 0, .int .u8 0, .int .u8 0, .int .u8 0]) = .agg [.val (.int .u8 0), .val (.int .u8 0), .val (.int .u8 0), .val (.int .u8 0), .val (.int .u8 0), .val (.int .u8 0), .val (.int .u8 0), .val (.int .u8 0), .val (.int .u8 0), .val (.int .u8 0), .val (.int .u8 0), .val (.int .u8 0), .val (.int .u8 0), .val (.int .u8 0), .val (.int .u8 0), .val (.int .u8 0), .val (.int .u8 0), .val (.int .u8 0), .val (.int .u8 0), .val (.int .u8 0), .val (.int .u8 0), .val (.int .u8 0), .val (.int .u8 0), .val (.int .u8 0), .val (.int .u8 0), .val (.int .u8 0), .val (.int .u8 0), .val (.int .u8 0), .val (.int .u8 0), .val (.int .u8 0), .val (.int .u8 0), .val (.int .u8 0)] := rfl
theorem ea_84 {Γ : Ctx} (s : AS) (ρ : Operand → PV) : evEff Tryd.prog Γ s ρ (.alloc 84) = some (.own s.nx 32 0 0, upd s.ob s.nx (some (84, 32, [.agg [.val (.int .u8 0), .val (.int .u8 0), .val (.int .u8 0), .val (.int .u8 0), .val (.int .u8 0), .val (.int .u8 0), .val (.int .u8 0), .val (.int .u8 0), .val (.int .u8 0), .val (.int .u8 0), .val (.int .u8 0), .val (.int .u8 0), .val (.int .u8 0), .val (.int .u8 0), .val (.int .u8 0), .val (.int .u8 0), .val (.int .u8 0), .val (.int .u8 0), .val (.int .u8 0), .val (.int .u8 0), .val (.int .u8 0), .val (.int .u8 0), .val (.int .u8 0), .val (.int .u8 0), .val (.int .u8 0), .val (.int .u8 0), .val (.int .u8 0), .val (.int .u8 0), .val (.int .u8 0), .val (.int .u8 0), .val (.int .u8 0), .val (.int .u8 0)]])), s.nx + 1) := ea_of ze_84 (by kernel_rfl) rfl rfl s ρ
theorem bs_84 : isByteSlice Tryd.prog 84 = false := by kernel_rfl
theorem is_84 : isStr Tryd.prog 84 = false := by kernel_rfl
theorem sz_85 : tySize Tryd.prog 85 = some 64 := by kernel_rfl
theorem ag_85 : tyAgg Tryd.prog 85 = some true := by kernel_rfl
theorem by_85 : tyBytes Tryd.prog 85 = some 64 := by kernel_rfl
theorem ze_85 : zeroOf Tryd.prog 85 = some (.agg #[.int .u8 0, .int .u8 0, .int .u8 0, .int .u8 0, .int .u8 0, .int .u8 0, .int .u8 0, .int .u8 0, .int .u8 0, .int .u8 0, .int .u8 0, .int .u8 0, .int .u8 0, .int .u8 0, .int .u8 0, .int .u8 0, .int .u8 0, .int .u8 0, .int .u8 0, .int .u8 0, .int .u8 0, .int .u8 0, .int .u8 0, .int .u8 0, .int .u8 0, .int .u8 0, .int .u8 0, .int .u8 0, .int .u8 0, .int .u8 0, .int .u8 0, .int .u8 0, .int .u8 0, .int .u8 0, .int .u8 0, .int .u8 0, .int .u8 0, .int .u8 0, .int .u8 0, .int .u8 0, .int .u8 0, .int .u8 0, .int .u8 0, .int .u8 0, .int .u8 0, .int .u8 0, .int .u8 0, .int .u8 0, .int .u8 0, .int .u8 0, .int .u8 0, .int .u8 0, .int .u8 0, .int .u8 0, .int .u8 0, .int .u8 0, .int .u8 0, .int .u8 0, .int .u8 0, .int .u8 0, .int .u8 0, .int .u8 0, .int .u8 0, .int .u8 0]) := by kernel_rfl
theorem un_85 : Tryd.prog.underlying 85 = some (.array 64 5) := by kernel_rfl
theorem oz_85 : ofVal (.agg #[.int .u8 0, .int .u8 0, .int .u8 0, .int .u8 0, .int .u8 0, .int .u8 0, .int .u8 0, .int .u8 0, .int .u8 0, .int .u8 0, .int .u8 0, .int .u8 0, .int .u8 0, .int .u8 0, .int .u8 0, .int .u8 0, .int .u8 0, .int .u8 0, .int .u8 0, .int .u8 0, .int .u8 0, .int .u8 0, .int .u8 0, .int .u8 0, .int .u8 0, .int .u8 0, .int .u8 0, .int .u8 0, .int .u8 0, .int .u8 0, .int .u8 0, .int .u8 0, .int .u8 0, .int .u8 0, .int .u8 0, .int .u8 0, .int .u8 0, .int .u8 0, .int .u8 0, .int .u8 0, .int .u8 0, .int .u8 0, .int .u8 0, .int .u8 0, .int .u8 0, .int .u8 0, .int .u8 0, .int .u8 0, .int .u8 0, .int .u8 0, .int .u8 0, .int .u8 0, .int .u8 0, .int .u8 0, .int .u8 0, .int .u8 0, .int .u8 0, .int .u8 0, .int .u8 0, .int .u8 0, .int .u8 0, .int .u8 0, .int .u8 0, .int .u8 0]) = .agg [.val (.int .u8 0), .val (.int .u8 0), .val (.int .u8 0), .val (.int .u8 0), .val (.int .u8 0), .val (.int .u8 0), .val (.int .u8 0), .val (.int .u8 0), .val (.int .u8 0), .val (.int .u8 0), .val (.int .u8 0), .val (.int .u8 0), .val (.int .u8 0), .val (.int .u8 0), .val (.int .u8 0), .val (.int .u8 0), .val (.int .u8 0), .val (.int .u8 0), .val (.int .u8 0), .val (.int .u8 0), .val (.int .u8 0), .val (.int .u8 0), .val (.int .u8 0), .val (.int .u8 0), .val (.int .u8 0), .val (.int .u8 0), .val (.int .u8 0), .val (.int .u8 0), .val (.int .u8 0), .val (.int .u8 0), .val (.int .u8 0), .val (.int .u8 0), .val (.int .u8 0), .val (.int .u8 0), .val (.int .u8 0), .val (.int .u8 0), .val (.int .u8 0), .val (.int .u8 0), .val (.int .u8 0), .val (.int .u8 0), .val (.int .u8 0), .val (.int .u8 0), .val (.int .u8 0), .val (.int .u8 0), .val (.int .u8 0), .val (.int .u8 0), .val (.int .u8 0), .val (.int .u8 0), .val (.int .u8 0), .val (.int .u8 0), .val (.int .u8 0), .val (.int .u8 0), .val (.int .u8 0), .val (.int .u8 0), .val (.int .u8 0), .val (.int .u8 0), .val (.int .u8 0), .val (.int .u8 0), .val (.int .u8 0), .val (.int .u8 0), .val (.int .u8 0), .val (.int .u8 0), .val (.int .u8 0), .val (.int .u8 0)] := rfl
theorem ea_85 {Γ : Ctx} (s : AS) (ρ : Operand → PV) : evEff Tryd.prog Γ s ρ (.alloc 85) = some (.own s.nx 64 0 0, upd s.ob s.nx (some (85, 64, [.agg [.val (.int .u8 0), .val (.int .u8 0), .val (.int .u8 0), .val (.int .u8 0), .val (.int .u8 0), .val (.int .u8 0), .val (.int .u8 0), .val (.int .u8 0), .val (.int .u8 0), .val (.int .u8 0), .val (.int .u8 0), .val (.int .u8 0), .val (.int .u8 0), .val (.int .u8 0), .val (.int .u8 0), .val (.int .u8 0), .val (.int .u8 0), .val (.int .u8 0), .val (.int .u8 0), .val (.int .u8 0), .val (.int .u8 0), .val (.int .u8 0), .val (.int .u8 0), .val (.int .u8 0), .val (.int .u8 0), .val (.int .u8 0), .val (.int .u8 0), .val (.int .u8 0), .val (.int .u8 0), .val (.int .u8 0), .val (.int .u8 0), .val (.int .u8 0), .val (.int .u8 0), .val (.int .u8 0), .val (.int .u8 0), .val (.int .u8 0), .val (.int .u8 0), .val (.int .u8 0), .val (.int .u8 0), .val (.int .u8 0), .val (.int .u8 0), .val (.int .u8 0), .val (.int .u8 0), .val (.int .u8 0), .val (.int .u8 0), .val (.int .u8 0), .val (.int .u8 0), .val (.int .u8 0), .val (.int .u8 0), .val (.int .u8 0), .val (.int .u8 0), .val (.int .u8 0), .val (.int .u8 0), .val (.int .u8 0), .val (.int .u8 0), .val (.int .u8 0), .val (.int .u8 0), .val (.int .u8 0), .val (.int .u8 0), .val (.int .u8 0), .val (.int .u8 0), .val (.int .u8 0), .val (.int .u8 0), .val (.int .u8 0)]])), s.nx + 1) := ea_of ze_85 (by kernel_rfl) rfl rfl s ρ
theorem bs_85 : isByteSlice Tryd.prog 85 = false := by kernel_rfl
theorem is_85 : isStr Tryd.prog 85 = false := by kernel_rfl
theorem sz_22 : tySize Tryd.prog 22 = some 1 := by kernel_rfl
theorem ag_22 : tyAgg Tryd.prog 22 = some false := by kernel_rfl
theorem by_22 : tyBytes Tryd.prog 22 = some 24 := by kernel_rfl
theorem ze_22 : zeroOf Tryd.prog 22 = some (.slice none 0 0) := by kernel_rfl
theorem un_22 : Tryd.prog.underlying 22 = some (.slice 52) := by kernel_rfl
theorem el_22 : tyElem Tryd.prog 22 = some 52 := by kernel_rfl
theorem ix_22 {k : Bool} {es : List PV} {i : Int} (h0 : 0 ≤ i) (h1 : i < (es.length : Int)) : evIndexAddr Tryd.prog 22 (.lst k 3 es) i = some (.ptr k ((es[i.toNat]?).getD .dead) 0) := ix_lst un_22 sz_52 h0 h1
theorem ixr_22 {o j n : Nat} {i : Int} (h0 : 0 ≤ i) (h1 : i < (n : Int)) : evIndexAddr Tryd.prog 22 (.row o 3 j n) i = some (.own o 3 (j + i.toNat) 0) := ix_row un_22 sz_52 h0 h1
theorem sl_22 {k : Bool} {es : List PV} {lo hi : Option Int} (h0 : 0 ≤ lo.getD 0) (h1 : lo.getD 0 ≤ hi.getD es.length) (h2 : hi.getD es.length ≤ es.length) : evSlice Tryd.prog 22 (.lst k 3 es) lo hi = some (.lst k 3 ((es.drop (lo.getD 0).toNat).take ((hi.getD es.length).toNat - (lo.getD 0).toNat))) := sl_lst un_22 sz_52 h0 h1 h2
theorem slr_22 {o i n : Nat} {lo hi : Option Int} (h0 : 0 ≤ lo.getD 0) (h1 : lo.getD 0 < hi.getD n) (h2 : hi.getD n ≤ n) : evSlice Tryd.prog 22 (.row o 3 i n) lo hi = some (.row o 3 (i + (lo.getD 0).toNat) ((hi.getD n).toNat - (lo.getD 0).toNat)) := sl_rowlt un_22 sz_52 h0 h1 h2
theorem sle_22 {o i n : Nat} {lo hi : Option Int} (h0 : 0 ≤ lo.getD 0) (h1 : lo.getD 0 = hi.getD n) (h2 : hi.getD n ≤ n) : evSlice Tryd.prog 22 (.row o 3 i n) lo hi = some (.lst true 3 []) := sl_roweq un_22 sz_52 h0 h1 h2
theorem lpl_22 {ty sz : Nat} {k : Bool} {es : List PV} : lenP Tryd.prog 22 ty (.lst k sz es) = some (.val (.int .i64 es.length)) := lp_lst el_22
theorem lpr_22 {ty o sz i n : Nat} : lenP Tryd.prog 22 ty (.row o sz i n) = some (.val (.int .i64 n)) := lp_row el_22
theorem lpn_22 {ty : Nat} : lenP Tryd.prog 22 ty (.val (.slice none 0 0)) = some (.val (.int .i64 0)) := lp_nil un_22
theorem oz_22 : ofVal (.slice none 0 0) = .val (.slice none 0 0) := rfl
theorem ea_22 {Γ : Ctx} (s : AS) (ρ : Operand → PV) : evEff Tryd.prog Γ s ρ (.alloc 22) = some (.own s.nx 1 0 0, upd s.ob s.nx (some (22, 1, [.val (.slice none 0 0)])), s.nx + 1) := ea_of ze_22 (by kernel_rfl) rfl rfl s ρ
theorem em_22 {Γ : Ctx} (s : AS) (ρ : Operand → PV) (l c : Operand) : evEff Tryd.prog Γ s ρ (.makeSlice 22 l c) = mkEv 52 3 24 (.agg #[.int .i64 0, .int .i64 0, .int .i64 0]) s (ρ l) (ρ c) := em_of el_22 ze_52 sz_52 by_52 (by kernel_rfl) rfl s ρ l c
theorem eap_22 {Γ : Ctx} (s : AS) (ρ : Operand → PV) (x y : Operand) : evEff Tryd.prog Γ s ρ (.call { callee := .builtin .append, args := #[x, y], argTypes := #[22, 22] }) = apEv 52 3 24 s.nx s.ob (ρ x) (obOf s.ob (ρ x)) (sliceEs s.ob 3 (ρ y)) := eap_of el_22 ze_52 sz_52 by_52 (by decide) rfl s ρ x y
theorem ecp_22 {Γ : Ctx} (s : AS) (ρ : Operand → PV) (x y : Operand) (t' : Nat) : evEff Tryd.prog Γ s ρ (.call { callee := .builtin .copy, args := #[x, y], argTypes := #[22, t'] }) = cpX 3 s.nx s.ob (ρ x) (obOf s.ob (ρ x)) (srcEs s.ob 3 (ρ y)) := ecp_of el_22 sz_52 s ρ x y t'
theorem bs_22 : isByteSlice Tryd.prog 22 = false := by kernel_rfl
theorem is_22 : isStr Tryd.prog 22 = false := by kernel_rfl
theorem sz_23 : tySize Tryd.prog 23 = some 1 := by kernel_rfl
theorem ag_23 : tyAgg Tryd.prog 23 = some false := by kernel_rfl
theorem by_23 : tyBytes Tryd.prog 23 = some 24 := by kernel_rfl
theorem ze_23 : zeroOf Tryd.prog 23 = some (.slice none 0 0) := by kernel_rfl
theorem un_23 : Tryd.prog.underlying 23 = some (.slice 3) := by kernel_rfl
theorem el_23 : tyElem Tryd.prog 23 = some 3 := by kernel_rfl
theorem ix_23 {k : Bool} {es : List PV} {i : Int} (h0 : 0 ≤ i) (h1 : i < (es.length : Int)) : evIndexAddr Tryd.prog 23 (.lst k 1 es) i = some (.ptr k ((es[i.toNat]?).getD .dead) 0) := ix_lst un_23 sz_3 h0 h1
theorem ixr_23 {o j n : Nat} {i : Int} (h0 : 0 ≤ i) (h1 : i < (n : Int)) : evIndexAddr Tryd.prog 23 (.row o 1 j n) i = some (.own o 1 (j + i.toNat) 0) := ix_row un_23 sz_3 h0 h1
theorem sl_23 {k : Bool} {es : List PV} {lo hi : Option Int} (h0 : 0 ≤ lo.getD 0) (h1 : lo.getD 0 ≤ hi.getD es.length) (h2 : hi.getD es.length ≤ es.length) : evSlice Tryd.prog 23 (.lst k 1 es) lo hi = some (.lst k 1 ((es.drop (lo.getD 0).toNat).take ((hi.getD es.length).toNat - (lo.getD 0).toNat))) := sl_lst un_23 sz_3 h0 h1 h2
theorem slr_23 {o i n : Nat} {lo hi : Option Int} (h0 : 0 ≤ lo.getD 0) (h1 : lo.getD 0 < hi.getD n) (h2 : hi.getD n ≤ n) : evSlice Tryd.prog 23 (.row o 1 i n) lo hi = some (.row o 1 (i + (lo.getD 0).toNat) ((hi.getD n).toNat - (lo.getD 0).toNat)) := sl_rowlt un_23 sz_3 h0 h1 h2
theorem sle_23 {o i n : Nat} {lo hi : Option Int} (h0 : 0 ≤ lo.getD 0) (h1 : lo.getD 0 = hi.getD n) (h2 : hi.getD n ≤ n) : evSlice Tryd.prog 23 (.row o 1 i n) lo hi = some (.lst true 1 []) := sl_roweq un_23 sz_3 h0 h1 h2
theorem lpl_23 {ty sz : Nat} {k : Bool} {es : List PV} : lenP Tryd.prog 23 ty (.lst k sz es) = some (.val (.int .i64 es.length)) := lp_lst el_23
theorem lpr_23 {ty o sz i n : Nat} : lenP Tryd.prog 23 ty (.row o sz i n) = some (.val (.int .i64 n)) := lp_row el_23
theorem lpn_23 {ty : Nat} : lenP Tryd.prog 23 ty (.val (.slice none 0 0)) = some (.val (.int .i64 0)) := lp_nil un_23
theorem oz_23 : ofVal (.slice none 0 0) = .val (.slice none 0 0) := rfl
theorem ea_23 {Γ : Ctx} (s : AS) (ρ : Operand → PV) : evEff Tryd.prog Γ s ρ (.alloc 23) = some (.own s.nx 1 0 0, upd s.ob s.nx (some (23, 1, [.val (.slice none 0 0)])), s.nx + 1) := ea_of ze_23 (by kernel_rfl) rfl rfl s ρ
theorem em_23 {Γ : Ctx} (s : AS) (ρ : Operand → PV) (l c : Operand) : evEff Tryd.prog Γ s ρ (.makeSlice 23 l c) = mkEv 3 1 8 (.int .i64 0) s (ρ l) (ρ c) := em_of el_23 ze_3 sz_3 by_3 (by kernel_rfl) rfl s ρ l c
theorem eap_23 {Γ : Ctx} (s : AS) (ρ : Operand → PV) (x y : Operand) : evEff Tryd.prog Γ s ρ (.call { callee := .builtin .append, args := #[x, y], argTypes := #[23, 23] }) = apEv 3 1 8 s.nx s.ob (ρ x) (obOf s.ob (ρ x)) (sliceEs s.ob 1 (ρ y)) := eap_of el_23 ze_3 sz_3 by_3 (by decide) rfl s ρ x y
theorem ecp_23 {Γ : Ctx} (s : AS) (ρ : Operand → PV) (x y : Operand) (t' : Nat) : evEff Tryd.prog Γ s ρ (.call { callee := .builtin .copy, args := #[x, y], argTypes := #[23, t'] }) = cpX 1 s.nx s.ob (ρ x) (obOf s.ob (ρ x)) (srcEs s.ob 1 (ρ y)) := ecp_of el_23 sz_3 s ρ x y t'
theorem bs_23 : isByteSlice Tryd.prog 23 = false := by kernel_rfl
theorem is_23 : isStr Tryd.prog 23 = false := by kernel_rfl
theorem sz_26 : tySize Tryd.prog 26 = some 1 := by kernel_rfl
theorem ag_26 : tyAgg Tryd.prog 26 = some false := by kernel_rfl
theorem by_26 : tyBytes Tryd.prog 26 = some 24 := by kernel_rfl
theorem ze_26 : zeroOf Tryd.prog 26 = some (.slice none 0 0) := by kernel_rfl
theorem un_26 : Tryd.prog.underlying 26 = some (.slice 40) := by kernel_rfl
theorem el_26 : tyElem Tryd.prog 26 = some 40 := by kernel_rfl
theorem ix_26 {k : Bool} {es : List PV} {i : Int} (h0 : 0 ≤ i) (h1 : i < (es.length : Int)) : evIndexAddr Tryd.prog 26 (.lst k 3 es) i = some (.ptr k ((es[i.toNat]?).getD .dead) 0) := ix_lst un_26 sz_40 h0 h1
theorem ixr_26 {o j n : Nat} {i : Int} (h0 : 0 ≤ i) (h1 : i < (n : Int)) : evIndexAddr Tryd.prog 26 (.row o 3 j n) i = some (.own o 3 (j + i.toNat) 0) := ix_row un_26 sz_40 h0 h1
theorem sl_26 {k : Bool} {es : List PV} {lo hi : Option Int} (h0 : 0 ≤ lo.getD 0) (h1 : lo.getD 0 ≤ hi.getD es.length) (h2 : hi.getD es.length ≤ es.length) : evSlice Tryd.prog 26 (.lst k 3 es) lo hi = some (.lst k 3 ((es.drop (lo.getD 0).toNat).take ((hi.getD es.length).toNat - (lo.getD 0).toNat))) := sl_lst un_26 sz_40 h0 h1 h2
theorem slr_26 {o i n : Nat} {lo hi : Option Int} (h0 : 0 ≤ lo.getD 0) (h1 : lo.getD 0 < hi.getD n) (h2 : hi.getD n ≤ n) : evSlice Tryd.prog 26 (.row o 3 i n) lo hi = some (.row o 3 (i + (lo.getD 0).toNat) ((hi.getD n).toNat - (lo.getD 0).toNat)) := sl_rowlt un_26 sz_40 h0 h1 h2
theorem sle_26 {o i n : Nat} {lo hi : Option Int} (h0 : 0 ≤ lo.getD 0) (h1 : lo.getD 0 = hi.getD n) (h2 : hi.getD n ≤ n) : evSlice Tryd.prog 26 (.row o 3 i n) lo hi = some (.lst true 3 []) := sl_roweq un_26 sz_40 h0 h1 h2
theorem lpl_26 {ty sz : Nat} {k : Bool} {es : List PV} : lenP Tryd.prog 26 ty (.lst k sz es) = some (.val (.int .i64 es.length)) := lp_lst el_26
theorem lpr_26 {ty o sz i n : Nat} : lenP Tryd.prog 26 ty (.row o sz i n) = some (.val (.int .i64 n)) := lp_row el_26
theorem lpn_26 {ty : Nat} : lenP Tryd.prog 26 ty (.val (.slice none 0 0)) = some (.val (.int .i64 0)) := lp_nil un_26
theorem oz_26 : ofVal (.slice none 0 0) = .val (.slice none 0 0) := rfl
theorem ea_26 {Γ : Ctx} (s : AS) (ρ : Operand → PV) : evEff Tryd.prog Γ s ρ (.alloc 26) = some (.own s.nx 1 0 0, upd s.ob s.nx (some (26, 1, [.val (.slice none 0 0)])), s.nx + 1) := ea_of ze_26 (by kernel_rfl) rfl rfl s ρ
theorem em_26 {Γ : Ctx} (s : AS) (ρ : Operand → PV) (l c : Operand) : evEff Tryd.prog Γ s ρ (.makeSlice 26 l c) = mkEv 40 3 24 (.agg #[.int .i64 0, .int .i64 0, .int .i64 0]) s (ρ l) (ρ c) := em_of el_26 ze_40 sz_40 by_40 (by kernel_rfl) rfl s ρ l c
theorem eap_26 {Γ : Ctx} (s : AS) (ρ : Operand → PV) (x y : Operand) : evEff Tryd.prog Γ s ρ (.call { callee := .builtin .append, args := #[x, y], argTypes := #[26, 26] }) = apEv 40 3 24 s.nx s.ob (ρ x) (obOf s.ob (ρ x)) (sliceEs s.ob 3 (ρ y)) := eap_of el_26 ze_40 sz_40 by_40 (by decide) rfl s ρ x y
theorem ecp_26 {Γ : Ctx} (s : AS) (ρ : Operand → PV) (x y : Operand) (t' : Nat) : evEff Tryd.prog Γ s ρ (.call { callee := .builtin .copy, args := #[x, y], argTypes := #[26, t'] }) = cpX 3 s.nx s.ob (ρ x) (obOf s.ob (ρ x)) (srcEs s.ob 3 (ρ y)) := ecp_of el_26 sz_40 s ρ x y t'
theorem bs_26 : isByteSlice Tryd.prog 26 = false := by kernel_rfl
theorem is_26 : isStr Tryd.prog 26 = false := by kernel_rfl
theorem sz_34 : tySize Tryd.prog 34 = some 1 := by kernel_rfl
theorem ag_34 : tyAgg Tryd.prog 34 = some false := by kernel_rfl
theorem by_34 : tyBytes Tryd.prog 34 = some 24 := by kernel_rfl
theorem ze_34 : zeroOf Tryd.prog 34 = some (.slice none 0 0) := by kernel_rfl
theorem un_34 : Tryd.prog.underlying 34 = some (.slice 5) := by kernel_rfl
theorem el_34 : tyElem Tryd.prog 34 = some 5 := by kernel_rfl
theorem ix_34 {k : Bool} {es : List PV} {i : Int} (h0 : 0 ≤ i) (h1 : i < (es.length : Int)) : evIndexAddr Tryd.prog 34 (.lst k 1 es) i = some (.ptr k ((es[i.toNat]?).getD .dead) 0) := ix_lst un_34 sz_5 h0 h1
theorem ixr_34 {o j n : Nat} {i : Int} (h0 : 0 ≤ i) (h1 : i < (n : Int)) : evIndexAddr Tryd.prog 34 (.row o 1 j n) i = some (.own o 1 (j + i.toNat) 0) := ix_row un_34 sz_5 h0 h1
theorem sl_34 {k : Bool} {es : List PV} {lo hi : Option Int} (h0 : 0 ≤ lo.getD 0) (h1 : lo.getD 0 ≤ hi.getD es.length) (h2 : hi.getD es.length ≤ es.length) : evSlice Tryd.prog 34 (.lst k 1 es) lo hi = some (.lst k 1 ((es.drop (lo.getD 0).toNat).take ((hi.getD es.length).toNat - (lo.getD 0).toNat))) := sl_lst un_34 sz_5 h0 h1 h2
theorem slr_34 {o i n : Nat} {lo hi : Option Int} (h0 : 0 ≤ lo.getD 0) (h1 : lo.getD 0 < hi.getD n) (h2 : hi.getD n ≤ n) : evSlice Tryd.prog 34 (.row o 1 i n) lo hi = some (.row o 1 (i + (lo.getD 0).toNat) ((hi.getD n).toNat - (lo.getD 0).toNat)) := sl_rowlt un_34 sz_5 h0 h1 h2
theorem sle_34 {o i n : Nat} {lo hi : Option Int} (h0 : 0 ≤ lo.getD 0) (h1 : lo.getD 0 = hi.getD n) (h2 : hi.getD n ≤ n) : evSlice Tryd.prog 34 (.row o 1 i n) lo hi = some (.lst true 1 []) := sl_roweq un_34 sz_5 h0 h1 h2
theorem lpl_34 {ty sz : Nat} {k : Bool} {es : List PV} : lenP Tryd.prog 34 ty (.lst k sz es) = some (.val (.int .i64 es.length)) := lp_lst el_34
theorem lpr_34 {ty o sz i n : Nat} : lenP Tryd.prog 34 ty (.row o sz i n) = some (.val (.int .i64 n)) := lp_row el_34
theorem lpn_34 {ty : Nat} : lenP Tryd.prog 34 ty (.val (.slice none 0 0)) = some (.val (.int .i64 0)) := lp_nil un_34
theorem oz_34 : ofVal (.slice none 0 0) = .val (.slice none 0 0) := rfl
theorem ea_34 {Γ : Ctx} (s : AS) (ρ : Operand → PV) : evEff Tryd.prog Γ s ρ (.alloc 34) = some (.own s.nx 1 0 0, upd s.ob s.nx (some (34, 1, [.val (.slice none 0 0)])), s.nx + 1) := ea_of ze_34 (by kernel_rfl) rfl rfl s ρ
theorem em_34 {Γ : Ctx} (s : AS) (ρ : Operand → PV) (l c : Operand) : evEff Tryd.prog Γ s ρ (.makeSlice 34 l c) = mkEv 5 1 1 (.int .u8 0) s (ρ l) (ρ c) := em_of el_34 ze_5 sz_5 by_5 (by kernel_rfl) rfl s ρ l c
theorem eap_34 {Γ : Ctx} (s : AS) (ρ : Operand → PV) (x y : Operand) : evEff Tryd.prog Γ s ρ (.call { callee := .builtin .append, args := #[x, y], argTypes := #[34, 34] }) = apEv 5 1 1 s.nx s.ob (ρ x) (obOf s.ob (ρ x)) (sliceEs s.ob 1 (ρ y)) := eap_of el_34 ze_5 sz_5 by_5 (by decide) rfl s ρ x y
theorem ecp_34 {Γ : Ctx} (s : AS) (ρ : Operand → PV) (x y : Operand) (t' : Nat) : evEff Tryd.prog Γ s ρ (.call { callee := .builtin .copy, args := #[x, y], argTypes := #[34, t'] }) = cpX 1 s.nx s.ob (ρ x) (obOf s.ob (ρ x)) (srcEs s.ob 1 (ρ y)) := ecp_of el_34 sz_5 s ρ x y t'
theorem bs_34 : isByteSlice Tryd.prog 34 = true := by kernel_rfl
theorem is_34 : isStr Tryd.prog 34 = false := by kernel_rfl
theorem sz_38 : tySize Tryd.prog 38 = some 1 := by kernel_rfl
theorem ag_38 : tyAgg Tryd.prog 38 = some false := by kernel_rfl
theorem by_38 : tyBytes Tryd.prog 38 = some 24 := by kernel_rfl
theorem ze_38 : zeroOf Tryd.prog 38 = some (.slice none 0 0) := by kernel_rfl
theorem un_38 : Tryd.prog.underlying 38 = some (.slice 4) := by kernel_rfl
theorem el_38 : tyElem Tryd.prog 38 = some 4 := by kernel_rfl
theorem ix_38 {k : Bool} {es : List PV} {i : Int} (h0 : 0 ≤ i) (h1 : i < (es.length : Int)) : evIndexAddr Tryd.prog 38 (.lst k 1 es) i = some (.ptr k ((es[i.toNat]?).getD .dead) 0) := ix_lst un_38 sz_4 h0 h1
theorem ixr_38 {o j n : Nat} {i : Int} (h0 : 0 ≤ i) (h1 : i < (n : Int)) : evIndexAddr Tryd.prog 38 (.row o 1 j n) i = some (.own o 1 (j + i.toNat) 0) := ix_row un_38 sz_4 h0 h1
theorem sl_38 {k : Bool} {es : List PV} {lo hi : Option Int} (h0 : 0 ≤ lo.getD 0) (h1 : lo.getD 0 ≤ hi.getD es.length) (h2 : hi.getD es.length ≤ es.length) : evSlice Tryd.prog 38 (.lst k 1 es) lo hi = some (.lst k 1 ((es.drop (lo.getD 0).toNat).take ((hi.getD es.length).toNat - (lo.getD 0).toNat))) := sl_lst un_38 sz_4 h0 h1 h2
theorem slr_38 {o i n : Nat} {lo hi : Option Int} (h0 : 0 ≤ lo.getD 0) (h1 : lo.getD 0 < hi.getD n) (h2 : hi.getD n ≤ n) : evSlice Tryd.prog 38 (.row o 1 i n) lo hi = some (.row o 1 (i + (lo.getD 0).toNat) ((hi.getD n).toNat - (lo.getD 0).toNat)) := sl_rowlt un_38 sz_4 h0 h1 h2
theorem sle_38 {o i n : Nat} {lo hi : Option Int} (h0 : 0 ≤ lo.getD 0) (h1 : lo.getD 0 = hi.getD n) (h2 : hi.getD n ≤ n) : evSlice Tryd.prog 38 (.row o 1 i n) lo hi = some (.lst true 1 []) := sl_roweq un_38 sz_4 h0 h1 h2
theorem lpl_38 {ty sz : Nat} {k : Bool} {es : List PV} : lenP Tryd.prog 38 ty (.lst k sz es) = some (.val (.int .i64 es.length)) := lp_lst el_38
theorem lpr_38 {ty o sz i n : Nat} : lenP Tryd.prog 38 ty (.row o sz i n) = some (.val (.int .i64 n)) := lp_row el_38
theorem lpn_38 {ty : Nat} : lenP Tryd.prog 38 ty (.val (.slice none 0 0)) = some (.val (.int .i64 0)) := lp_nil un_38
theorem oz_38 : ofVal (.slice none 0 0) = .val (.slice none 0 0) := rfl
theorem ea_38 {Γ : Ctx} (s : AS) (ρ : Operand → PV) : evEff Tryd.prog Γ s ρ (.alloc 38) = some (.own s.nx 1 0 0, upd s.ob s.nx (some (38, 1, [.val (.slice none 0 0)])), s.nx + 1) := ea_of ze_38 (by kernel_rfl) rfl rfl s ρ
theorem em_38 {Γ : Ctx} (s : AS) (ρ : Operand → PV) (l c : Operand) : evEff Tryd.prog Γ s ρ (.makeSlice 38 l c) = mkEv 4 1 1 (.bool false) s (ρ l) (ρ c) := em_of el_38 ze_4 sz_4 by_4 (by kernel_rfl) rfl s ρ l c
theorem eap_38 {Γ : Ctx} (s : AS) (ρ : Operand → PV) (x y : Operand) : evEff Tryd.prog Γ s ρ (.call { callee := .builtin .append, args := #[x, y], argTypes := #[38, 38] }) = apEv 4 1 1 s.nx s.ob (ρ x) (obOf s.ob (ρ x)) (sliceEs s.ob 1 (ρ y)) := eap_of el_38 ze_4 sz_4 by_4 (by decide) rfl s ρ x y
theorem ecp_38 {Γ : Ctx} (s : AS) (ρ : Operand → PV) (x y : Operand) (t' : Nat) : evEff Tryd.prog Γ s ρ (.call { callee := .builtin .copy, args := #[x, y], argTypes := #[38, t'] }) = cpX 1 s.nx s.ob (ρ x) (obOf s.ob (ρ x)) (srcEs s.ob 1 (ρ y)) := ecp_of el_38 sz_4 s ρ x y t'
theorem bs_38 : isByteSlice Tryd.prog 38 = false := by kernel_rfl
theorem is_38 : isStr Tryd.prog 38 = false := by kernel_rfl
theorem cvi_2_2 {k : IntKind} {n : Int} {es : Option (List PV)} : convP Tryd.prog 2 2 false es (some (.int k n)) = some (.val (.int .i64 (IntKind.i64.wrap n))) := cv_int un_2 un_2
theorem cvi_2_3 {k : IntKind} {n : Int} {es : Option (List PV)} : convP Tryd.prog 2 3 false es (some (.int k n)) = some (.val (.int .i64 (IntKind.i64.wrap n))) := cv_int un_2 un_3
theorem cvi_2_5 {k : IntKind} {n : Int} {es : Option (List PV)} : convP Tryd.prog 2 5 false es (some (.int k n)) = some (.val (.int .u8 (IntKind.u8.wrap n))) := cv_int un_2 un_5
theorem cvi_2_12 {k : IntKind} {n : Int} {es : Option (List PV)} : convP Tryd.prog 2 12 false es (some (.int k n)) = some (.val (.int .u64 (IntKind.u64.wrap n))) := cv_int un_2 un_12
theorem cvi_2_21 {k : IntKind} {n : Int} {es : Option (List PV)} : convP Tryd.prog 2 21 false es (some (.int k n)) = some (.val (.int .i32 (IntKind.i32.wrap n))) := cv_int un_2 un_21
theorem cvi_2_72 {k : IntKind} {n : Int} {es : Option (List PV)} : convP Tryd.prog 2 72 false es (some (.int k n)) = some (.val (.int .u64 (IntKind.u64.wrap n))) := cv_int un_2 un_72
theorem cvi_2_79 {k : IntKind} {n : Int} {es : Option (List PV)} : convP Tryd.prog 2 79 false es (some (.int k n)) = some (.val (.int .u32 (IntKind.u32.wrap n))) := cv_int un_2 un_79
theorem cvi_2_81 {k : IntKind} {n : Int} {es : Option (List PV)} : convP Tryd.prog 2 81 false es (some (.int k n)) = some (.val (.int .u64 (IntKind.u64.wrap n))) := cv_int un_2 un_81
theorem cvi_3_2 {k : IntKind} {n : Int} {es : Option (List PV)} : convP Tryd.prog 3 2 false es (some (.int k n)) = some (.val (.int .i64 (IntKind.i64.wrap n))) := cv_int un_3 un_2
theorem cvi_3_3 {k : IntKind} {n : Int} {es : Option (List PV)} : convP Tryd.prog 3 3 false es (some (.int k n)) = some (.val (.int .i64 (IntKind.i64.wrap n))) := cv_int un_3 un_3
theorem cvi_3_5 {k : IntKind} {n : Int} {es : Option (List PV)} : convP Tryd.prog 3 5 false es (some (.int k n)) = some (.val (.int .u8 (IntKind.u8.wrap n))) := cv_int un_3 un_5
theorem cvi_3_12 {k : IntKind} {n : Int} {es : Option (List PV)} : convP Tryd.prog 3 12 false es (some (.int k n)) = some (.val (.int .u64 (IntKind.u64.wrap n))) := cv_int un_3 un_12
theorem cvi_3_21 {k : IntKind} {n : Int} {es : Option (List PV)} : convP Tryd.prog 3 21 false es (some (.int k n)) = some (.val (.int .i32 (IntKind.i32.wrap n))) := cv_int un_3 un_21
theorem cvi_3_72 {k : IntKind} {n : Int} {es : Option (List PV)} : convP Tryd.prog 3 72 false es (some (.int k n)) = some (.val (.int .u64 (IntKind.u64.wrap n))) := cv_int un_3 un_72
theorem cvi_3_79 {k : IntKind} {n : Int} {es : Option (List PV)} : convP Tryd.prog 3 79 false es (some (.int k n)) = some (.val (.int .u32 (IntKind.u32.wrap n))) := cv_int un_3 un_79
theorem cvi_3_81 {k : IntKind} {n : Int} {es : Option (List PV)} : convP Tryd.prog 3 81 false es (some (.int k n)) = some (.val (.int .u64 (IntKind.u64.wrap n))) := cv_int un_3 un_81
theorem cvi_5_2 {k : IntKind} {n : Int} {es : Option (List PV)} : convP Tryd.prog 5 2 false es (some (.int k n)) = some (.val (.int .i64 (IntKind.i64.wrap n))) := cv_int un_5 un_2
theorem cvi_5_3 {k : IntKind} {n : Int} {es : Option (List PV)} : convP Tryd.prog 5 3 false es (some (.int k n)) = some (.val (.int .i64 (IntKind.i64.wrap n))) := cv_int un_5 un_3
theorem cvi_5_5 {k : IntKind} {n : Int} {es : Option (List PV)} : convP Tryd.prog 5 5 false es (some (.int k n)) = some (.val (.int .u8 (IntKind.u8.wrap n))) := cv_int un_5 un_5
theorem cvi_5_12 {k : IntKind} {n : Int} {es : Option (List PV)} : convP Tryd.prog 5 12 false es (some (.int k n)) = some (.val (.int .u64 (IntKind.u64.wrap n))) := cv_int un_5 un_12
theorem cvi_5_21 {k : IntKind} {n : Int} {es : Option (List PV)} : convP Tryd.prog 5 21 false es (some (.int k n)) = some (.val (.int .i32 (IntKind.i32.wrap n))) := cv_int un_5 un_21
theorem cvi_5_72 {k : IntKind} {n : Int} {es : Option (List PV)} : convP Tryd.prog 5 72 false es (some (.int k n)) = some (.val (.int .u64 (IntKind.u64.wrap n))) := cv_int un_5 un_72
theorem cvi_5_79 {k : IntKind} {n : Int} {es : Option (List PV)} : convP Tryd.prog 5 79 false es (some (.int k n)) = some (.val (.int .u32 (IntKind.u32.wrap n))) := cv_int un_5 un_79
theorem cvi_5_81 {k : IntKind} {n : Int} {es : Option (List PV)} : convP Tryd.prog 5 81 false es (some (.int k n)) = some (.val (.int .u64 (IntKind.u64.wrap n))) := cv_int un_5 un_81
theorem cvi_12_2 {k : IntKind} {n : Int} {es : Option (List PV)} : convP Tryd.prog 12 2 false es (some (.int k n)) = some (.val (.int .i64 (IntKind.i64.wrap n))) := cv_int un_12 un_2
theorem cvi_12_3 {k : IntKind} {n : Int} {es : Option (List PV)} : convP Tryd.prog 12 3 false es (some (.int k n)) = some (.val (.int .i64 (IntKind.i64.wrap n))) := cv_int un_12 un_3
theorem cvi_12_5 {k : IntKind} {n : Int} {es : Option (List PV)} : convP Tryd.prog 12 5 false es (some (.int k n)) = some (.val (.int .u8 (IntKind.u8.wrap n))) := cv_int un_12 un_5
theorem cvi_12_12 {k : IntKind} {n : Int} {es : Option (List PV)} : convP Tryd.prog 12 12 false es (some (.int k n)) = some (.val (.int .u64 (IntKind.u64.wrap n))) := cv_int un_12 un_12
theorem cvi_12_21 {k : IntKind} {n : Int} {es : Option (List PV)} : convP Tryd.prog 12 21 false es (some (.int k n)) = some (.val (.int .i32 (IntKind.i32.wrap n))) := cv_int un_12 un_21
theorem cvi_12_72 {k : IntKind} {n : Int} {es : Option (List PV)} : convP Tryd.prog 12 72 false es (some (.int k n)) = some (.val (.int .u64 (IntKind.u64.wrap n))) := cv_int un_12 un_72
theorem cvi_12_79 {k : IntKind} {n : Int} {es : Option (List PV)} : convP Tryd.prog 12 79 false es (some (.int k n)) = some (.val (.int .u32 (IntKind.u32.wrap n))) := cv_int un_12 un_79
theorem cvi_12_81 {k : IntKind} {n : Int} {es : Option (List PV)} : convP Tryd.prog 12 81 false es (some (.int k n)) = some (.val (.int .u64 (IntKind.u64.wrap n))) := cv_int un_12 un_81
theorem cvi_21_2 {k : IntKind} {n : Int} {es : Option (List PV)} : convP Tryd.prog 21 2 false es (some (.int k n)) = some (.val (.int .i64 (IntKind.i64.wrap n))) := cv_int un_21 un_2
theorem cvi_21_3 {k : IntKind} {n : Int} {es : Option (List PV)} : convP Tryd.prog 21 3 false es (some (.int k n)) = some (.val (.int .i64 (IntKind.i64.wrap n))) := cv_int un_21 un_3
theorem cvi_21_5 {k : IntKind} {n : Int} {es : Option (List PV)} : convP Tryd.prog 21 5 false es (some (.int k n)) = some (.val (.int .u8 (IntKind.u8.wrap n))) := cv_int un_21 un_5
theorem cvi_21_12 {k : IntKind} {n : Int} {es : Option (List PV)} : convP Tryd.prog 21 12 false es (some (.int k n)) = some (.val (.int .u64 (IntKind.u64.wrap n))) := cv_int un_21 un_12
theorem cvi_21_21 {k : IntKind} {n : Int} {es : Option (List PV)} : convP Tryd.prog 21 21 false es (some (.int k n)) = some (.val (.int .i32 (IntKind.i32.wrap n))) := cv_int un_21 un_21
theorem cvi_21_72 {k : IntKind} {n : Int} {es : Option (List PV)} : convP Tryd.prog 21 72 false es (some (.int k n)) = some (.val (.int .u64 (IntKind.u64.wrap n))) := cv_int un_21 un_72
theorem cvi_21_79 {k : IntKind} {n : Int} {es : Option (List PV)} : convP Tryd.prog 21 79 false es (some (.int k n)) = some (.val (.int .u32 (IntKind.u32.wrap n))) := cv_int un_21 un_79
theorem cvi_21_81 {k : IntKind} {n : Int} {es : Option (List PV)} : convP Tryd.prog 21 81 false es (some (.int k n)) = some (.val (.int .u64 (IntKind.u64.wrap n))) := cv_int un_21 un_81
theorem cvi_72_2 {k : IntKind} {n : Int} {es : Option (List PV)} : convP Tryd.prog 72 2 false es (some (.int k n)) = some (.val (.int .i64 (IntKind.i64.wrap n))) := cv_int un_72 un_2
theorem cvi_72_3 {k : IntKind} {n : Int} {es : Option (List PV)} : convP Tryd.prog 72 3 false es (some (.int k n)) = some (.val (.int .i64 (IntKind.i64.wrap n))) := cv_int un_72 un_3
theorem cvi_72_5 {k : IntKind} {n : Int} {es : Option (List PV)} : convP Tryd.prog 72 5 false es (some (.int k n)) = some (.val (.int .u8 (IntKind.u8.wrap n))) := cv_int un_72 un_5
theorem cvi_72_12 {k : IntKind} {n : Int} {es : Option (List PV)} : convP Tryd.prog 72 12 false es (some (.int k n)) = some (.val (.int .u64 (IntKind.u64.wrap n))) := cv_int un_72 un_12
theorem cvi_72_21 {k : IntKind} {n : Int} {es : Option (List PV)} : convP Tryd.prog 72 21 false es (some (.int k n)) = some (.val (.int .i32 (IntKind.i32.wrap n))) := cv_int un_72 un_21
theorem cvi_72_72 {k : IntKind} {n : Int} {es : Option (List PV)} : convP Tryd.prog 72 72 false es (some (.int k n)) = some (.val (.int .u64 (IntKind.u64.wrap n))) := cv_int un_72 un_72
theorem cvi_72_79 {k : IntKind} {n : Int} {es : Option (List PV)} : convP Tryd.prog 72 79 false es (some (.int k n)) = some (.val (.int .u32 (IntKind.u32.wrap n))) := cv_int un_72 un_79
theorem cvi_72_81 {k : IntKind} {n : Int} {es : Option (List PV)} : convP Tryd.prog 72 81 false es (some (.int k n)) = some (.val (.int .u64 (IntKind.u64.wrap n))) := cv_int un_72 un_81
theorem cvi_79_2 {k : IntKind} {n : Int} {es : Option (List PV)} : convP Tryd.prog 79 2 false es (some (.int k n)) = some (.val (.int .i64 (IntKind.i64.wrap n))) := cv_int un_79 un_2
theorem cvi_79_3 {k : IntKind} {n : Int} {es : Option (List PV)} : convP Tryd.prog 79 3 false es (some (.int k n)) = some (.val (.int .i64 (IntKind.i64.wrap n))) := cv_int un_79 un_3
theorem cvi_79_5 {k : IntKind} {n : Int} {es : Option (List PV)} : convP Tryd.prog 79 5 false es (some (.int k n)) = some (.val (.int .u8 (IntKind.u8.wrap n))) := cv_int un_79 un_5
theorem cvi_79_12 {k : IntKind} {n : Int} {es : Option (List PV)} : convP Tryd.prog 79 12 false es (some (.int k n)) = some (.val (.int .u64 (IntKind.u64.wrap n))) := cv_int un_79 un_12
theorem cvi_79_21 {k : IntKind} {n : Int} {es : Option (List PV)} : convP Tryd.prog 79 21 false es (some (.int k n)) = some (.val (.int .i32 (IntKind.i32.wrap n))) := cv_int un_79 un_21
theorem cvi_79_72 {k : IntKind} {n : Int} {es : Option (List PV)} : convP Tryd.prog 79 72 false es (some (.int k n)) = some (.val (.int .u64 (IntKind.u64.wrap n))) := cv_int un_79 un_72
theorem cvi_79_79 {k : IntKind} {n : Int} {es : Option (List PV)} : convP Tryd.prog 79 79 false es (some (.int k n)) = some (.val (.int .u32 (IntKind.u32.wrap n))) := cv_int un_79 un_79
theorem cvi_79_81 {k : IntKind} {n : Int} {es : Option (List PV)} : convP Tryd.prog 79 81 false es (some (.int k n)) = some (.val (.int .u64 (IntKind.u64.wrap n))) := cv_int un_79 un_81
theorem cvi_81_2 {k : IntKind} {n : Int} {es : Option (List PV)} : convP Tryd.prog 81 2 false es (some (.int k n)) = some (.val (.int .i64 (IntKind.i64.wrap n))) := cv_int un_81 un_2
theorem cvi_81_3 {k : IntKind} {n : Int} {es : Option (List PV)} : convP Tryd.prog 81 3 false es (some (.int k n)) = some (.val (.int .i64 (IntKind.i64.wrap n))) := cv_int un_81 un_3
theorem cvi_81_5 {k : IntKind} {n : Int} {es : Option (List PV)} : convP Tryd.prog 81 5 false es (some (.int k n)) = some (.val (.int .u8 (IntKind.u8.wrap n))) := cv_int un_81 un_5
theorem cvi_81_12 {k : IntKind} {n : Int} {es : Option (List PV)} : convP Tryd.prog 81 12 false es (some (.int k n)) = some (.val (.int .u64 (IntKind.u64.wrap n))) := cv_int un_81 un_12
theorem cvi_81_21 {k : IntKind} {n : Int} {es : Option (List PV)} : convP Tryd.prog 81 21 false es (some (.int k n)) = some (.val (.int .i32 (IntKind.i32.wrap n))) := cv_int un_81 un_21
theorem cvi_81_72 {k : IntKind} {n : Int} {es : Option (List PV)} : convP Tryd.prog 81 72 false es (some (.int k n)) = some (.val (.int .u64 (IntKind.u64.wrap n))) := cv_int un_81 un_72
theorem cvi_81_79 {k : IntKind} {n : Int} {es : Option (List PV)} : convP Tryd.prog 81 79 false es (some (.int k n)) = some (.val (.int .u32 (IntKind.u32.wrap n))) := cv_int un_81 un_79
theorem cvi_81_81 {k : IntKind} {n : Int} {es : Option (List PV)} : convP Tryd.prog 81 81 false es (some (.int k n)) = some (.val (.int .u64 (IntKind.u64.wrap n))) := cv_int un_81 un_81
theorem rw_23_0 : rowEs Tryd.prog 23 0 [] = rowC 3 1 [] (true) := rw_of el_23 sz_3 ze_3 _ (by decide) (by decide) rfl
theorem rw_23_1 {a0 : PV} : rowEs Tryd.prog 23 1 [(0, a0)] = rowC 3 1 [a0] (okP 1 a0 && (true)) := rw_of el_23 sz_3 ze_3 _ (by decide) (by decide) rfl
theorem rw_23_2 {a0 a1 : PV} : rowEs Tryd.prog 23 2 [(0, a0), (1, a1)] = rowC 3 1 [a0, a1] (okP 1 a0 && (okP 1 a1 && (true))) := rw_of el_23 sz_3 ze_3 _ (by decide) (by decide) rfl
theorem rw_23_4 {a0 a1 a2 a3 : PV} : rowEs Tryd.prog 23 4 [(0, a0), (1, a1), (2, a2), (3, a3)] = rowC 3 1 [a0, a1, a2, a3] (okP 1 a0 && (okP 1 a1 && (okP 1 a2 && (okP 1 a3 && (true))))) := rw_of el_23 sz_3 ze_3 _ (by decide) (by decide) rfl
theorem rw_23_6 {a0 a1 a2 a3 a4 a5 : PV} : rowEs Tryd.prog 23 6 [(0, a0), (1, a1), (2, a2), (3, a3), (4, a4), (5, a5)] = rowC 3 1 [a0, a1, a2, a3, a4, a5] (okP 1 a0 && (okP 1 a1 && (okP 1 a2 && (okP 1 a3 && (okP 1 a4 && (okP 1 a5 && (true))))))) := rw_of el_23 sz_3 ze_3 _ (by decide) (by decide) rfl
theorem rw_23_7 {a0 a1 a2 a3 a4 a5 a6 : PV} : rowEs Tryd.prog 23 7 [(0, a0), (1, a1), (2, a2), (3, a3), (4, a4), (5, a5), (6, a6)] = rowC 3 1 [a0, a1, a2, a3, a4, a5, a6] (okP 1 a0 && (okP 1 a1 && (okP 1 a2 && (okP 1 a3 && (okP 1 a4 && (okP 1 a5 && (okP 1 a6 && (true)))))))) := rw_of el_23 sz_3 ze_3 _ (by decide) (by decide) rfl
theorem rw_26_0 : rowEs Tryd.prog 26 0 [] = rowC 40 3 [] (true) := rw_of el_26 sz_40 ze_40 _ (by decide) (by decide) rfl
theorem rw_26_1 {a0 : PV} : rowEs Tryd.prog 26 1 [(0, a0)] = rowC 40 3 [a0] (okP 3 a0 && (true)) := rw_of el_26 sz_40 ze_40 _ (by decide) (by decide) rfl
theorem rw_26_2 {a0 a1 : PV} : rowEs Tryd.prog 26 2 [(0, a0), (1, a1)] = rowC 40 3 [a0, a1] (okP 3 a0 && (okP 3 a1 && (true))) := rw_of el_26 sz_40 ze_40 _ (by decide) (by decide) rfl
theorem mixed : Tryd.prog.follows .mixedOrders = true := by kernel_rfl
attribute [push_cast high]
  bz_7
  bz_13
  bz_39
  bz_40
  bz_52
  bz_59
  bz_60
  bz_63
  bz_64
attribute [push_cast]
  sz_2
  ag_2
  by_2
  ze_2
  un_2
  oz_2
  ea_2
  bs_2
  is_2
  sz_3
  ag_3
  by_3
  ze_3
  un_3
  oz_3
  ea_3
  bs_3
  is_3
  sz_4
  ag_4
  by_4
  ze_4
  un_4
  bqe_4
  bqn_4
  oz_4
  ea_4
  bs_4
  is_4
  sz_5
  ag_5
  by_5
  ze_5
  un_5
  oz_5
  ea_5
  bs_5
  is_5
  sz_7
  ag_7
  by_7
  ze_7
  fo_7_0
  fo_7_1
  fo_7_2
  fo_7_3
  pl_7
  bl_7
  oz_7
  ea_7
  bs_7
  is_7
  sz_9
  ag_9
  by_9
  ze_9
  un_9
  lps_9
  ixs_9
  oz_9
  ea_9
  bs_9
  is_9
  sz_12
  ag_12
  by_12
  ze_12
  un_12
  oz_12
  ea_12
  bs_12
  is_12
  sz_13
  ag_13
  by_13
  ze_13
  fo_13_0
  fo_13_1
  pl_13
  bl_13
  oz_13
  ea_13
  bs_13
  is_13
  sz_21
  ag_21
  by_21
  ze_21
  un_21
  oz_21
  ea_21
  bs_21
  is_21
  sz_39
  ag_39
  by_39
  ze_39
  fo_39_0
  fo_39_1
  fo_39_2
  pl_39
  bl_39
  oz_39
  ea_39
  bs_39
  is_39
  sz_40
  ag_40
  by_40
  ze_40
  fo_40_0
  fo_40_1
  fo_40_2
  pl_40
  bl_40
  oz_40
  ea_40
  sqeql_40
  sqneq_40
  bs_40
  is_40
  sz_52
  ag_52
  by_52
  ze_52
  fo_52_0
  fo_52_1
  fo_52_2
  pl_52
  bl_52
  oz_52
  ea_52
  sqeql_52
  sqneq_52
  bs_52
  is_52
  sz_59
  ag_59
  by_59
  ze_59
  fo_59_0
  fo_59_1
  fo_59_2
  fo_59_3
  pl_59
  bl_59
  oz_59
  ea_59
  bs_59
  is_59
  sz_60
  ag_60
  by_60
  ze_60
  fo_60_0
  fo_60_1
  fo_60_2
  fo_60_3
  pl_60
  bl_60
  oz_60
  ea_60
  sqeql_60
  sqneq_60
  bs_60
  is_60
  sz_63
  ag_63
  by_63
  ze_63
  fo_63_0
  fo_63_1
  pl_63
  bl_63
  oz_63
  ea_63
  bs_63
  is_63
  sz_64
  ag_64
  by_64
  ze_64
  fo_64_0
  fo_64_1
  pl_64
  bl_64
  oz_64
  ea_64
  bs_64
  is_64
  sz_71
  ag_71
  by_71
  ze_71
  un_71
  oz_71
  ea_71
  bs_71
  is_71
  sz_72
  ag_72
  by_72
  ze_72
  un_72
  oz_72
  ea_72
  bs_72
  is_72
  sz_78
  ag_78
  by_78
  ze_78
  un_78
  oz_78
  ea_78
  bs_78
  is_78
  sz_79
  ag_79
  by_79
  ze_79
  un_79
  oz_79
  ea_79
  bs_79
  is_79
  sz_81
  ag_81
  by_81
  ze_81
  un_81
  oz_81
  ea_81
  bs_81
  is_81
  sz_84
  ag_84
  by_84
  ze_84
  un_84
  oz_84
  ea_84
  bs_84
  is_84
  sz_85
  ag_85
  by_85
  ze_85
  un_85
  oz_85
  ea_85
  bs_85
  is_85
  sz_22
  ag_22
  by_22
  ze_22
  un_22
  el_22
  ix_22
  ixr_22
  sl_22
  slr_22
  sle_22
  lpl_22
  lpr_22
  lpn_22
  oz_22
  ea_22
  em_22
  eap_22
  ecp_22
  bs_22
  is_22
  sz_23
  ag_23
  by_23
  ze_23
  un_23
  el_23
  ix_23
  ixr_23
  sl_23
  slr_23
  sle_23
  lpl_23
  lpr_23
  lpn_23
  oz_23
  ea_23
  em_23
  eap_23
  ecp_23
  bs_23
  is_23
  sz_26
  ag_26
  by_26
  ze_26
  un_26
  el_26
  ix_26
  ixr_26
  sl_26
  slr_26
  sle_26
  lpl_26
  lpr_26
  lpn_26
  oz_26
  ea_26
  em_26
  eap_26
  ecp_26
  bs_26
  is_26
  sz_34
  ag_34
  by_34
  ze_34
  un_34
  el_34
  ix_34
  ixr_34
  sl_34
  slr_34
  sle_34
  lpl_34
  lpr_34
  lpn_34
  oz_34
  ea_34
  em_34
  eap_34
  ecp_34
  bs_34
  is_34
  sz_38
  ag_38
  by_38
  ze_38
  un_38
  el_38
  ix_38
  ixr_38
  sl_38
  slr_38
  sle_38
  lpl_38
  lpr_38
  lpn_38
  oz_38
  ea_38
  em_38
  eap_38
  ecp_38
  bs_38
  is_38
  cvi_2_2
  cvi_2_3
  cvi_2_5
  cvi_2_12
  cvi_2_21
  cvi_2_72
  cvi_2_79
  cvi_2_81
  cvi_3_2
  cvi_3_3
  cvi_3_5
  cvi_3_12
  cvi_3_21
  cvi_3_72
  cvi_3_79
  cvi_3_81
  cvi_5_2
  cvi_5_3
  cvi_5_5
  cvi_5_12
  cvi_5_21
  cvi_5_72
  cvi_5_79
  cvi_5_81
  cvi_12_2
  cvi_12_3
  cvi_12_5
  cvi_12_12
  cvi_12_21
  cvi_12_72
  cvi_12_79
  cvi_12_81
  cvi_21_2
  cvi_21_3
  cvi_21_5
  cvi_21_12
  cvi_21_21
  cvi_21_72
  cvi_21_79
  cvi_21_81
  cvi_72_2
  cvi_72_3
  cvi_72_5
  cvi_72_12
  cvi_72_21
  cvi_72_72
  cvi_72_79
  cvi_72_81
  cvi_79_2
  cvi_79_3
  cvi_79_5
  cvi_79_12
  cvi_79_21
  cvi_79_72
  cvi_79_79
  cvi_79_81
  cvi_81_2
  cvi_81_3
  cvi_81_5
  cvi_81_12
  cvi_81_21
  cvi_81_72
  cvi_81_79
  cvi_81_81
  rw_23_0
  rw_23_1
  rw_23_2
  rw_23_4
  rw_23_6
  rw_23_7
  rw_26_0
  rw_26_1
  rw_26_2
end Go.Proofs.YtghhlakfbgcmkaaDoor
