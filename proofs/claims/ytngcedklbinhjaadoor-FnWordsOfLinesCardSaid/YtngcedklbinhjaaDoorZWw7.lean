/- What the proof rests on, part 7: contracts of functions. No condition beyond what each states. -/
import Derived.Test.YtngcedklbinhjaaDoorZWw6
namespace Go.Proofs.YtngcedklbinhjaaDoor
open Go.RowKit
set_option linter.all false
theorem sz_2 : tySize Tryd.prog 2 = some 1 := by kernel_rfl
theorem ag_2 : tyAgg Tryd.prog 2 = some false := by kernel_rfl
theorem by_2 : tyBytes Tryd.prog 2 = some 8 := by kernel_rfl
theorem ze_2 : zeroOf Tryd.prog 2 = some (.int .i64 0) := by kernel_rfl
theorem un_2 : Tryd.prog.underlying 2 = some (.int .i64) := by kernel_rfl
theorem oz_2 : ofVal (.int .i64 0) = .val (.int .i64 0) := rfl
theorem ea_2 {Γ : Ctx} (s : AS) (ρ : Operand → PV) : evEff Tryd.prog Γ s ρ (.alloc 2) = some (.own s.nx 1 0 0, upd s.ob s.nx (some (2, 1, [.val (.int .i64 0)])), s.nx + 1) := ea_of ze_2 (by kernel_rfl) rfl rfl s ρ
theorem bs_2 : isByteSlice Tryd.prog 2 = false := by kernel_rfl
theorem is_2 : isStr Tryd.prog 2 = false := by kernel_rfl
theorem sz_3 : tySize Tryd.prog 3 = some 1 := by kernel_rfl
theorem ag_3 : tyAgg Tryd.prog 3 = some false := by kernel_rfl
theorem by_3 : tyBytes Tryd.prog 3 = some 8 := by kernel_rfl
theorem ze_3 : zeroOf Tryd.prog 3 = some (.int .i64 0) := by kernel_rfl
theorem un_3 : Tryd.prog.underlying 3 = some (.int .i64) := by kernel_rfl
theorem oz_3 : ofVal (.int .i64 0) = .val (.int .i64 0) := rfl
theorem ea_3 {Γ : Ctx} (s : AS) (ρ : Operand → PV) : evEff Tryd.prog Γ s ρ (.alloc 3) = some (.own s.nx 1 0 0, upd s.ob s.nx (some (3, 1, [.val (.int .i64 0)])), s.nx + 1) := ea_of ze_3 (by kernel_rfl) rfl rfl s ρ
theorem bs_3 : isByteSlice Tryd.prog 3 = false := by kernel_rfl
theorem is_3 : isStr Tryd.prog 3 = false := by kernel_rfl
theorem sz_4 : tySize Tryd.prog 4 = some 1 := by kernel_rfl
theorem ag_4 : tyAgg Tryd.prog 4 = some false := by kernel_rfl
theorem by_4 : tyBytes Tryd.prog 4 = some 1 := by kernel_rfl
theorem ze_4 : zeroOf Tryd.prog 4 = some (.bool false) := by kernel_rfl
theorem un_4 : Tryd.prog.underlying 4 = some .bool := by kernel_rfl
theorem bqe_4 {x y : Operand} {a b : Bool} : binP Tryd.prog .eql 4 x y (some (.bool a)) (some (.bool b)) = some (.val (.bool (a == b))) := bp_eqlB un_4
theorem bqn_4 {x y : Operand} {a b : Bool} : binP Tryd.prog .neq 4 x y (some (.bool a)) (some (.bool b)) = some (.val (.bool (!(a == b)))) := bp_neqB un_4
theorem oz_4 : ofVal (.bool false) = .val (.bool false) := rfl
theorem ea_4 {Γ : Ctx} (s : AS) (ρ : Operand → PV) : evEff Tryd.prog Γ s ρ (.alloc 4) = some (.own s.nx 1 0 0, upd s.ob s.nx (some (4, 1, [.val (.bool false)])), s.nx + 1) := ea_of ze_4 (by kernel_rfl) rfl rfl s ρ
theorem bs_4 : isByteSlice Tryd.prog 4 = false := by kernel_rfl
theorem is_4 : isStr Tryd.prog 4 = false := by kernel_rfl
theorem sz_5 : tySize Tryd.prog 5 = some 1 := by kernel_rfl
theorem ag_5 : tyAgg Tryd.prog 5 = some false := by kernel_rfl
theorem by_5 : tyBytes Tryd.prog 5 = some 1 := by kernel_rfl
theorem ze_5 : zeroOf Tryd.prog 5 = some (.int .u8 0) := by kernel_rfl
theorem un_5 : Tryd.prog.underlying 5 = some (.int .u8) := by kernel_rfl
theorem oz_5 : ofVal (.int .u8 0) = .val (.int .u8 0) := rfl
theorem ea_5 {Γ : Ctx} (s : AS) (ρ : Operand → PV) : evEff Tryd.prog Γ s ρ (.alloc 5) = some (.own s.nx 1 0 0, upd s.ob s.nx (some (5, 1, [.val (.int .u8 0)])), s.nx + 1) := ea_of ze_5 (by kernel_rfl) rfl rfl s ρ
theorem bs_5 : isByteSlice Tryd.prog 5 = false := by kernel_rfl
theorem is_5 : isStr Tryd.prog 5 = false := by kernel_rfl
theorem sz_7 : tySize Tryd.prog 7 = some 4 := by kernel_rfl
theorem ag_7 : tyAgg Tryd.prog 7 = some true := by kernel_rfl
theorem by_7 : tyBytes Tryd.prog 7 = some 24 := by kernel_rfl
theorem ze_7 : zeroOf Tryd.prog 7 = some (.agg #[.int .i64 0, .int .i64 0, .bool false, .int .u8 0]) := by kernel_rfl
theorem fo_7_0 : fieldOff Tryd.prog 7 0 = some 0 := by kernel_rfl
theorem fo_7_1 : fieldOff Tryd.prog 7 1 = some 1 := by kernel_rfl
theorem fo_7_2 : fieldOff Tryd.prog 7 2 = some 2 := by kernel_rfl
theorem fo_7_3 : fieldOff Tryd.prog 7 3 = some 3 := by kernel_rfl
theorem pl_7 : structPlaces Tryd.prog 7 = some #[(0, 1), (1, 1), (2, 1), (3, 1)] := by kernel_rfl
theorem bl_7 (ps : List (Nat × PV)) : evBuild Tryd.prog 7 ps = (fillP (plF [(0, 1), (1, 1), (2, 1), (3, 1)]) [.val (.int .i64 0), .val (.int .i64 0), .val (.bool false), .val (.int .u8 0)] ps).map .agg := bl_of ze_7 rfl pl_7 ps
theorem oz_7 : ofVal (.agg #[.int .i64 0, .int .i64 0, .bool false, .int .u8 0]) = .agg [.val (.int .i64 0), .val (.int .i64 0), .val (.bool false), .val (.int .u8 0)] := rfl
theorem ea_7 {Γ : Ctx} (s : AS) (ρ : Operand → PV) : evEff Tryd.prog Γ s ρ (.alloc 7) = some (.own s.nx 4 0 0, upd s.ob s.nx (some (7, 4, [.agg [.val (.int .i64 0), .val (.int .i64 0), .val (.bool false), .val (.int .u8 0)]])), s.nx + 1) := ea_of ze_7 (by kernel_rfl) rfl rfl s ρ
theorem bz_7 {Γ : Ctx} {ob : Objs} {ρ : Operand → PV} {ty : Nat} : evVal Tryd.prog Γ ob ρ ty (.build 7 #[]) = some (.agg [.val (.int .i64 0), .val (.int .i64 0), .val (.bool false), .val (.int .u8 0)]) := (show evBuild Tryd.prog 7 [] = some (.agg [.val (.int .i64 0), .val (.int .i64 0), .val (.bool false), .val (.int .u8 0)]) from by kernel_rfl)
theorem bs_7 : isByteSlice Tryd.prog 7 = false := by kernel_rfl
theorem is_7 : isStr Tryd.prog 7 = false := by kernel_rfl
theorem sz_9 : tySize Tryd.prog 9 = some 1 := by kernel_rfl
theorem ag_9 : tyAgg Tryd.prog 9 = some false := by kernel_rfl
theorem by_9 : tyBytes Tryd.prog 9 = some 16 := by kernel_rfl
theorem ze_9 : zeroOf Tryd.prog 9 = some (.string ByteArray.empty) := by kernel_rfl
theorem un_9 : Tryd.prog.underlying 9 = some .string := by kernel_rfl
theorem lps_9 {ty : Nat} {s : ByteArray} : lenP Tryd.prog 9 ty (.val (.string s)) = some (.val (.int .i64 s.size)) := lp_str un_9
theorem ixs_9 {s : ByteArray} {i : Int} (h0 : 0 ≤ i) (h1 : i < s.size) : idxP Tryd.prog 9 (some (.string s)) (some (.int .i64 i)) = some (.val (.int .u8 (at8 s i.toNat))) := ix_str un_9 h0 h1
theorem oz_9 : ofVal (.string ByteArray.empty) = .val (.string ByteArray.empty) := rfl
theorem ea_9 {Γ : Ctx} (s : AS) (ρ : Operand → PV) : evEff Tryd.prog Γ s ρ (.alloc 9) = some (.own s.nx 1 0 0, upd s.ob s.nx (some (9, 1, [.val (.string ByteArray.empty)])), s.nx + 1) := ea_of ze_9 (by kernel_rfl) rfl rfl s ρ
theorem bs_9 : isByteSlice Tryd.prog 9 = false := by kernel_rfl
theorem is_9 : isStr Tryd.prog 9 = true := by kernel_rfl
theorem sz_12 : tySize Tryd.prog 12 = some 1 := by kernel_rfl
theorem ag_12 : tyAgg Tryd.prog 12 = some false := by kernel_rfl
theorem by_12 : tyBytes Tryd.prog 12 = some 8 := by kernel_rfl
theorem ze_12 : zeroOf Tryd.prog 12 = some (.int .u64 0) := by kernel_rfl
theorem un_12 : Tryd.prog.underlying 12 = some (.int .u64) := by kernel_rfl
theorem oz_12 : ofVal (.int .u64 0) = .val (.int .u64 0) := rfl
theorem ea_12 {Γ : Ctx} (s : AS) (ρ : Operand → PV) : evEff Tryd.prog Γ s ρ (.alloc 12) = some (.own s.nx 1 0 0, upd s.ob s.nx (some (12, 1, [.val (.int .u64 0)])), s.nx + 1) := ea_of ze_12 (by kernel_rfl) rfl rfl s ρ
theorem bs_12 : isByteSlice Tryd.prog 12 = false := by kernel_rfl
theorem is_12 : isStr Tryd.prog 12 = false := by kernel_rfl
theorem sz_13 : tySize Tryd.prog 13 = some 2 := by kernel_rfl
theorem ag_13 : tyAgg Tryd.prog 13 = some true := by kernel_rfl
theorem by_13 : tyBytes Tryd.prog 13 = some 24 := by kernel_rfl
theorem ze_13 : zeroOf Tryd.prog 13 = some (.agg #[.string ByteArray.empty, .int .u64 0]) := by kernel_rfl
theorem fo_13_0 : fieldOff Tryd.prog 13 0 = some 0 := by kernel_rfl
theorem fo_13_1 : fieldOff Tryd.prog 13 1 = some 1 := by kernel_rfl
theorem pl_13 : structPlaces Tryd.prog 13 = some #[(0, 1), (1, 1)] := by kernel_rfl
theorem bl_13 (ps : List (Nat × PV)) : evBuild Tryd.prog 13 ps = (fillP (plF [(0, 1), (1, 1)]) [.val (.string ByteArray.empty), .val (.int .u64 0)] ps).map .agg := bl_of ze_13 rfl pl_13 ps
theorem oz_13 : ofVal (.agg #[.string ByteArray.empty, .int .u64 0]) = .agg [.val (.string ByteArray.empty), .val (.int .u64 0)] := rfl
theorem ea_13 {Γ : Ctx} (s : AS) (ρ : Operand → PV) : evEff Tryd.prog Γ s ρ (.alloc 13) = some (.own s.nx 2 0 0, upd s.ob s.nx (some (13, 2, [.agg [.val (.string ByteArray.empty), .val (.int .u64 0)]])), s.nx + 1) := ea_of ze_13 (by kernel_rfl) rfl rfl s ρ
theorem bz_13 {Γ : Ctx} {ob : Objs} {ρ : Operand → PV} {ty : Nat} : evVal Tryd.prog Γ ob ρ ty (.build 13 #[]) = some (.agg [.val (.string ByteArray.empty), .val (.int .u64 0)]) := (show evBuild Tryd.prog 13 [] = some (.agg [.val (.string ByteArray.empty), .val (.int .u64 0)]) from by kernel_rfl)
theorem bs_13 : isByteSlice Tryd.prog 13 = false := by kernel_rfl
theorem is_13 : isStr Tryd.prog 13 = false := by kernel_rfl
theorem sz_21 : tySize Tryd.prog 21 = some 1 := by kernel_rfl
theorem ag_21 : tyAgg Tryd.prog 21 = some false := by kernel_rfl
theorem by_21 : tyBytes Tryd.prog 21 = some 4 := by kernel_rfl
theorem ze_21 : zeroOf Tryd.prog 21 = some (.int .i32 0) := by kernel_rfl
theorem un_21 : Tryd.prog.underlying 21 = some (.int .i32) := by kernel_rfl
theorem oz_21 : ofVal (.int .i32 0) = .val (.int .i32 0) := rfl
theorem ea_21 {Γ : Ctx} (s : AS) (ρ : Operand → PV) : evEff Tryd.prog Γ s ρ (.alloc 21) = some (.own s.nx 1 0 0, upd s.ob s.nx (some (21, 1, [.val (.int .i32 0)])), s.nx + 1) := ea_of ze_21 (by kernel_rfl) rfl rfl s ρ
theorem bs_21 : isByteSlice Tryd.prog 21 = false := by kernel_rfl
theorem is_21 : isStr Tryd.prog 21 = false := by kernel_rfl
theorem sz_44 : tySize Tryd.prog 44 = some 4 := by kernel_rfl
theorem ag_44 : tyAgg Tryd.prog 44 = some true := by kernel_rfl
theorem by_44 : tyBytes Tryd.prog 44 = some 32 := by kernel_rfl
theorem ze_44 : zeroOf Tryd.prog 44 = some (.agg #[.int .i64 0, .int .i64 0, .int .i64 0, .int .i64 0]) := by kernel_rfl
theorem fo_44_0 : fieldOff Tryd.prog 44 0 = some 0 := by kernel_rfl
theorem fo_44_1 : fieldOff Tryd.prog 44 1 = some 1 := by kernel_rfl
theorem fo_44_2 : fieldOff Tryd.prog 44 2 = some 2 := by kernel_rfl
theorem fo_44_3 : fieldOff Tryd.prog 44 3 = some 3 := by kernel_rfl
theorem pl_44 : structPlaces Tryd.prog 44 = some #[(0, 1), (1, 1), (2, 1), (3, 1)] := by kernel_rfl
theorem bl_44 (ps : List (Nat × PV)) : evBuild Tryd.prog 44 ps = (fillP (plF [(0, 1), (1, 1), (2, 1), (3, 1)]) [.val (.int .i64 0), .val (.int .i64 0), .val (.int .i64 0), .val (.int .i64 0)] ps).map .agg := bl_of ze_44 rfl pl_44 ps
theorem oz_44 : ofVal (.agg #[.int .i64 0, .int .i64 0, .int .i64 0, .int .i64 0]) = .agg [.val (.int .i64 0), .val (.int .i64 0), .val (.int .i64 0), .val (.int .i64 0)] := rfl
theorem ea_44 {Γ : Ctx} (s : AS) (ρ : Operand → PV) : evEff Tryd.prog Γ s ρ (.alloc 44) = some (.own s.nx 4 0 0, upd s.ob s.nx (some (44, 4, [.agg [.val (.int .i64 0), .val (.int .i64 0), .val (.int .i64 0), .val (.int .i64 0)]])), s.nx + 1) := ea_of ze_44 (by kernel_rfl) rfl rfl s ρ
theorem bz_44 {Γ : Ctx} {ob : Objs} {ρ : Operand → PV} {ty : Nat} : evVal Tryd.prog Γ ob ρ ty (.build 44 #[]) = some (.agg [.val (.int .i64 0), .val (.int .i64 0), .val (.int .i64 0), .val (.int .i64 0)]) := (show evBuild Tryd.prog 44 [] = some (.agg [.val (.int .i64 0), .val (.int .i64 0), .val (.int .i64 0), .val (.int .i64 0)]) from by kernel_rfl)
theorem bs_44 : isByteSlice Tryd.prog 44 = false := by kernel_rfl
theorem is_44 : isStr Tryd.prog 44 = false := by kernel_rfl
theorem sz_45 : tySize Tryd.prog 45 = some 4 := by kernel_rfl
theorem ag_45 : tyAgg Tryd.prog 45 = some true := by kernel_rfl
theorem by_45 : tyBytes Tryd.prog 45 = some 32 := by kernel_rfl
theorem ze_45 : zeroOf Tryd.prog 45 = some (.agg #[.int .i64 0, .int .i64 0, .int .i64 0, .int .i64 0]) := by kernel_rfl
theorem fo_45_0 : fieldOff Tryd.prog 45 0 = some 0 := by kernel_rfl
theorem fo_45_1 : fieldOff Tryd.prog 45 1 = some 1 := by kernel_rfl
theorem fo_45_2 : fieldOff Tryd.prog 45 2 = some 2 := by kernel_rfl
theorem fo_45_3 : fieldOff Tryd.prog 45 3 = some 3 := by kernel_rfl
theorem pl_45 : structPlaces Tryd.prog 45 = some #[(0, 1), (1, 1), (2, 1), (3, 1)] := by kernel_rfl
theorem bl_45 (ps : List (Nat × PV)) : evBuild Tryd.prog 45 ps = (fillP (plF [(0, 1), (1, 1), (2, 1), (3, 1)]) [.val (.int .i64 0), .val (.int .i64 0), .val (.int .i64 0), .val (.int .i64 0)] ps).map .agg := bl_of ze_45 rfl pl_45 ps
theorem oz_45 : ofVal (.agg #[.int .i64 0, .int .i64 0, .int .i64 0, .int .i64 0]) = .agg [.val (.int .i64 0), .val (.int .i64 0), .val (.int .i64 0), .val (.int .i64 0)] := rfl
theorem ea_45 {Γ : Ctx} (s : AS) (ρ : Operand → PV) : evEff Tryd.prog Γ s ρ (.alloc 45) = some (.own s.nx 4 0 0, upd s.ob s.nx (some (45, 4, [.agg [.val (.int .i64 0), .val (.int .i64 0), .val (.int .i64 0), .val (.int .i64 0)]])), s.nx + 1) := ea_of ze_45 (by kernel_rfl) rfl rfl s ρ
theorem bz_45 {Γ : Ctx} {ob : Objs} {ρ : Operand → PV} {ty : Nat} : evVal Tryd.prog Γ ob ρ ty (.build 45 #[]) = some (.agg [.val (.int .i64 0), .val (.int .i64 0), .val (.int .i64 0), .val (.int .i64 0)]) := (show evBuild Tryd.prog 45 [] = some (.agg [.val (.int .i64 0), .val (.int .i64 0), .val (.int .i64 0), .val (.int .i64 0)]) from by kernel_rfl)
theorem fd_45 : Tryd.prog.underlying 45 = some (.struct (Go.Program.fieldsOf Tryd.prog 45)) := by kernel_rfl
theorem ef_45 {a0 b0 : Int} {a1 b1 : Int} {a2 b2 : Int} {a3 b3 : Int} : eqFl Tryd.prog [.int .i64 a0, .int .i64 a1, .int .i64 a2, .int .i64 a3] [.int .i64 b0, .int .i64 b1, .int .i64 b2, .int .i64 b3] (Go.Program.fieldsOf Tryd.prog 45).toList = some ((a0 == b0) && ((a1 == b1) && ((a2 == b2) && ((a3 == b3) && true)))) := by kernel_rfl
theorem sqeql_45 {x y : Operand} {a0 b0 : Int} {a1 b1 : Int} {a2 b2 : Int} {a3 b3 : Int} : binP Tryd.prog .eql 45 x y (some (.agg #[.int .i64 a0, .int .i64 a1, .int .i64 a2, .int .i64 a3])) (some (.agg #[.int .i64 b0, .int .i64 b1, .int .i64 b2, .int .i64 b3])) = some (.val (.bool ((a0 == b0) && ((a1 == b1) && ((a2 == b2) && ((a3 == b3) && true)))))) := bp_eqlA fd_45 (by kernel_rfl) (by kernel_rfl) ef_45
theorem sqneq_45 {x y : Operand} {a0 b0 : Int} {a1 b1 : Int} {a2 b2 : Int} {a3 b3 : Int} : binP Tryd.prog .neq 45 x y (some (.agg #[.int .i64 a0, .int .i64 a1, .int .i64 a2, .int .i64 a3])) (some (.agg #[.int .i64 b0, .int .i64 b1, .int .i64 b2, .int .i64 b3])) = some (.val (.bool (!((a0 == b0) && ((a1 == b1) && ((a2 == b2) && ((a3 == b3) && true))))))) := bp_neqA fd_45 (by kernel_rfl) (by kernel_rfl) ef_45
theorem bs_45 : isByteSlice Tryd.prog 45 = false := by kernel_rfl
theorem is_45 : isStr Tryd.prog 45 = false := by kernel_rfl
theorem sz_51 : tySize Tryd.prog 51 = some 2 := by kernel_rfl
theorem ag_51 : tyAgg Tryd.prog 51 = some true := by kernel_rfl
theorem by_51 : tyBytes Tryd.prog 51 = some 32 := by kernel_rfl
theorem ze_51 : zeroOf Tryd.prog 51 = some (.agg #[.slice none 0 0, .int .i64 0]) := by kernel_rfl
theorem fo_51_0 : fieldOff Tryd.prog 51 0 = some 0 := by kernel_rfl
theorem fo_51_1 : fieldOff Tryd.prog 51 1 = some 1 := by kernel_rfl
theorem pl_51 : structPlaces Tryd.prog 51 = some #[(0, 1), (1, 1)] := by kernel_rfl
theorem bl_51 (ps : List (Nat × PV)) : evBuild Tryd.prog 51 ps = (fillP (plF [(0, 1), (1, 1)]) [.val (.slice none 0 0), .val (.int .i64 0)] ps).map .agg := bl_of ze_51 rfl pl_51 ps
theorem oz_51 : ofVal (.agg #[.slice none 0 0, .int .i64 0]) = .agg [.val (.slice none 0 0), .val (.int .i64 0)] := rfl
theorem ea_51 {Γ : Ctx} (s : AS) (ρ : Operand → PV) : evEff Tryd.prog Γ s ρ (.alloc 51) = some (.own s.nx 2 0 0, upd s.ob s.nx (some (51, 2, [.agg [.val (.slice none 0 0), .val (.int .i64 0)]])), s.nx + 1) := ea_of ze_51 (by kernel_rfl) rfl rfl s ρ
theorem bz_51 {Γ : Ctx} {ob : Objs} {ρ : Operand → PV} {ty : Nat} : evVal Tryd.prog Γ ob ρ ty (.build 51 #[]) = some (.agg [.val (.slice none 0 0), .val (.int .i64 0)]) := (show evBuild Tryd.prog 51 [] = some (.agg [.val (.slice none 0 0), .val (.int .i64 0)]) from by kernel_rfl)
theorem bs_51 : isByteSlice Tryd.prog 51 = false := by kernel_rfl
theorem is_51 : isStr Tryd.prog 51 = false := by kernel_rfl
theorem sz_52 : tySize Tryd.prog 52 = some 2 := by kernel_rfl
theorem ag_52 : tyAgg Tryd.prog 52 = some true := by kernel_rfl
theorem by_52 : tyBytes Tryd.prog 52 = some 32 := by kernel_rfl
theorem ze_52 : zeroOf Tryd.prog 52 = some (.agg #[.slice none 0 0, .int .i64 0]) := by kernel_rfl
theorem fo_52_0 : fieldOff Tryd.prog 52 0 = some 0 := by kernel_rfl
theorem fo_52_1 : fieldOff Tryd.prog 52 1 = some 1 := by kernel_rfl
theorem pl_52 : structPlaces Tryd.prog 52 = some #[(0, 1), (1, 1)] := by kernel_rfl
theorem bl_52 (ps : List (Nat × PV)) : evBuild Tryd.prog 52 ps = (fillP (plF [(0, 1), (1, 1)]) [.val (.slice none 0 0), .val (.int .i64 0)] ps).map .agg := bl_of ze_52 rfl pl_52 ps
theorem oz_52 : ofVal (.agg #[.slice none 0 0, .int .i64 0]) = .agg [.val (.slice none 0 0), .val (.int .i64 0)] := rfl
theorem ea_52 {Γ : Ctx} (s : AS) (ρ : Operand → PV) : evEff Tryd.prog Γ s ρ (.alloc 52) = some (.own s.nx 2 0 0, upd s.ob s.nx (some (52, 2, [.agg [.val (.slice none 0 0), .val (.int .i64 0)]])), s.nx + 1) := ea_of ze_52 (by kernel_rfl) rfl rfl s ρ
theorem bz_52 {Γ : Ctx} {ob : Objs} {ρ : Operand → PV} {ty : Nat} : evVal Tryd.prog Γ ob ρ ty (.build 52 #[]) = some (.agg [.val (.slice none 0 0), .val (.int .i64 0)]) := (show evBuild Tryd.prog 52 [] = some (.agg [.val (.slice none 0 0), .val (.int .i64 0)]) from by kernel_rfl)
theorem bs_52 : isByteSlice Tryd.prog 52 = false := by kernel_rfl
theorem is_52 : isStr Tryd.prog 52 = false := by kernel_rfl
theorem sz_63 : tySize Tryd.prog 63 = some 7 := by kernel_rfl
theorem ag_63 : tyAgg Tryd.prog 63 = some true := by kernel_rfl
theorem by_63 : tyBytes Tryd.prog 63 = some 56 := by kernel_rfl
theorem ze_63 : zeroOf Tryd.prog 63 = some (.agg #[.int .i64 0, .int .i64 0, .int .i64 0, .int .i64 0, .int .i64 0, .int .i64 0, .bool false]) := by kernel_rfl
theorem fo_63_0 : fieldOff Tryd.prog 63 0 = some 0 := by kernel_rfl
theorem fo_63_1 : fieldOff Tryd.prog 63 1 = some 1 := by kernel_rfl
theorem fo_63_2 : fieldOff Tryd.prog 63 2 = some 5 := by kernel_rfl
theorem fo_63_3 : fieldOff Tryd.prog 63 3 = some 6 := by kernel_rfl
theorem pl_63 : structPlaces Tryd.prog 63 = some #[(0, 1), (1, 4), (5, 1), (6, 1)] := by kernel_rfl
theorem bl_63 (ps : List (Nat × PV)) : evBuild Tryd.prog 63 ps = (fillP (plF [(0, 1), (1, 4), (5, 1), (6, 1)]) [.val (.int .i64 0), .val (.int .i64 0), .val (.int .i64 0), .val (.int .i64 0), .val (.int .i64 0), .val (.int .i64 0), .val (.bool false)] ps).map .agg := bl_of ze_63 rfl pl_63 ps
theorem oz_63 : ofVal (.agg #[.int .i64 0, .int .i64 0, .int .i64 0, .int .i64 0, .int .i64 0, .int .i64 0, .bool false]) = .agg [.val (.int .i64 0), .val (.int .i64 0), .val (.int .i64 0), .val (.int .i64 0), .val (.int .i64 0), .val (.int .i64 0), .val (.bool false)] := rfl
theorem ea_63 {Γ : Ctx} (s : AS) (ρ : Operand → PV) : evEff Tryd.prog Γ s ρ (.alloc 63) = some (.own s.nx 7 0 0, upd s.ob s.nx (some (63, 7, [.agg [.val (.int .i64 0), .val (.int .i64 0), .val (.int .i64 0), .val (.int .i64 0), .val (.int .i64 0), .val (.int .i64 0), .val (.bool false)]])), s.nx + 1) := ea_of ze_63 (by kernel_rfl) rfl rfl s ρ
theorem bz_63 {Γ : Ctx} {ob : Objs} {ρ : Operand → PV} {ty : Nat} : evVal Tryd.prog Γ ob ρ ty (.build 63 #[]) = some (.agg [.val (.int .i64 0), .val (.int .i64 0), .val (.int .i64 0), .val (.int .i64 0), .val (.int .i64 0), .val (.int .i64 0), .val (.bool false)]) := (show evBuild Tryd.prog 63 [] = some (.agg [.val (.int .i64 0), .val (.int .i64 0), .val (.int .i64 0), .val (.int .i64 0), .val (.int .i64 0), .val (.int .i64 0), .val (.bool false)]) from by kernel_rfl)
theorem bs_63 : isByteSlice Tryd.prog 63 = false := by kernel_rfl
theorem is_63 : isStr Tryd.prog 63 = false := by kernel_rfl
theorem sz_64 : tySize Tryd.prog 64 = some 7 := by kernel_rfl
theorem ag_64 : tyAgg Tryd.prog 64 = some true := by kernel_rfl
theorem by_64 : tyBytes Tryd.prog 64 = some 56 := by kernel_rfl
theorem ze_64 : zeroOf Tryd.prog 64 = some (.agg #[.int .i64 0, .int .i64 0, .int .i64 0, .int .i64 0, .int .i64 0, .int .i64 0, .bool false]) := by kernel_rfl
theorem fo_64_0 : fieldOff Tryd.prog 64 0 = some 0 := by kernel_rfl
theorem fo_64_1 : fieldOff Tryd.prog 64 1 = some 1 := by kernel_rfl
theorem fo_64_2 : fieldOff Tryd.prog 64 2 = some 5 := by kernel_rfl
theorem fo_64_3 : fieldOff Tryd.prog 64 3 = some 6 := by kernel_rfl
theorem pl_64 : structPlaces Tryd.prog 64 = some #[(0, 1), (1, 4), (5, 1), (6, 1)] := by kernel_rfl
theorem bl_64 (ps : List (Nat × PV)) : evBuild Tryd.prog 64 ps = (fillP (plF [(0, 1), (1, 4), (5, 1), (6, 1)]) [.val (.int .i64 0), .val (.int .i64 0), .val (.int .i64 0), .val (.int .i64 0), .val (.int .i64 0), .val (.int .i64 0), .val (.bool false)] ps).map .agg := bl_of ze_64 rfl pl_64 ps
theorem oz_64 : ofVal (.agg #[.int .i64 0, .int .i64 0, .int .i64 0, .int .i64 0, .int .i64 0, .int .i64 0, .bool false]) = .agg [.val (.int .i64 0), .val (.int .i64 0), .val (.int .i64 0), .val (.int .i64 0), .val (.int .i64 0), .val (.int .i64 0), .val (.bool false)] := rfl
theorem ea_64 {Γ : Ctx} (s : AS) (ρ : Operand → PV) : evEff Tryd.prog Γ s ρ (.alloc 64) = some (.own s.nx 7 0 0, upd s.ob s.nx (some (64, 7, [.agg [.val (.int .i64 0), .val (.int .i64 0), .val (.int .i64 0), .val (.int .i64 0), .val (.int .i64 0), .val (.int .i64 0), .val (.bool false)]])), s.nx + 1) := ea_of ze_64 (by kernel_rfl) rfl rfl s ρ
theorem bz_64 {Γ : Ctx} {ob : Objs} {ρ : Operand → PV} {ty : Nat} : evVal Tryd.prog Γ ob ρ ty (.build 64 #[]) = some (.agg [.val (.int .i64 0), .val (.int .i64 0), .val (.int .i64 0), .val (.int .i64 0), .val (.int .i64 0), .val (.int .i64 0), .val (.bool false)]) := (show evBuild Tryd.prog 64 [] = some (.agg [.val (.int .i64 0), .val (.int .i64 0), .val (.int .i64 0), .val (.int .i64 0), .val (.int .i64 0), .val (.int .i64 0), .val (.bool false)]) from by kernel_rfl)
theorem bs_64 : isByteSlice Tryd.prog 64 = false := by kernel_rfl
theorem is_64 : isStr Tryd.prog 64 = false := by kernel_rfl
theorem sz_76 : tySize Tryd.prog 76 = some 4 := by kernel_rfl
theorem ag_76 : tyAgg Tryd.prog 76 = some true := by kernel_rfl
theorem by_76 : tyBytes Tryd.prog 76 = some 4 := by kernel_rfl
theorem ze_76 : zeroOf Tryd.prog 76 = some (.agg #[.bool false, .bool false, .bool false, .bool false]) := by kernel_rfl
theorem un_76 : Tryd.prog.underlying 76 = some (.array 4 4) := by kernel_rfl
theorem ixa_76 {o sz j f : Nat} {i : Int} (h0 : 0 ≤ i) (h1 : i < 4) : evIndexAddr Tryd.prog 76 (.own o sz j f) i = some (.own o sz j (f + i.toNat)) := by rw [ixa_of un_76 sz_4 h0 h1, Nat.mul_one]
theorem ixp_76 {k : Bool} {x : PV} {f : Nat} {i : Int} (h0 : 0 ≤ i) (h1 : i < 4) : evIndexAddr Tryd.prog 76 (.ptr k x f) i = some (.ptr k x (f + i.toNat)) := by rw [ixap_of un_76 sz_4 h0 h1, Nat.mul_one]
theorem bl_76 (ps : List (Nat × PV)) : evBuild Tryd.prog 76 ps = (fillP (plF [(0, 1), (1, 1), (2, 1), (3, 1)]) [.val (.bool false), .val (.bool false), .val (.bool false), .val (.bool false)] ps).map .agg := bla_of ze_76 rfl (by kernel_rfl) (pl := #[(0, 1), (1, 1), (2, 1), (3, 1)]) (by kernel_rfl) ps
theorem oz_76 : ofVal (.agg #[.bool false, .bool false, .bool false, .bool false]) = .agg [.val (.bool false), .val (.bool false), .val (.bool false), .val (.bool false)] := rfl
theorem ea_76 {Γ : Ctx} (s : AS) (ρ : Operand → PV) : evEff Tryd.prog Γ s ρ (.alloc 76) = some (.own s.nx 4 0 0, upd s.ob s.nx (some (76, 4, [.agg [.val (.bool false), .val (.bool false), .val (.bool false), .val (.bool false)]])), s.nx + 1) := ea_of ze_76 (by kernel_rfl) rfl rfl s ρ
theorem bs_76 : isByteSlice Tryd.prog 76 = false := by kernel_rfl
theorem is_76 : isStr Tryd.prog 76 = false := by kernel_rfl
theorem sz_83 : tySize Tryd.prog 83 = some 4 := by kernel_rfl
theorem ag_83 : tyAgg Tryd.prog 83 = some true := by kernel_rfl
theorem by_83 : tyBytes Tryd.prog 83 = some 32 := by kernel_rfl
theorem ze_83 : zeroOf Tryd.prog 83 = some (.agg #[.int .i64 0, .int .i64 0, .int .i64 0, .int .i64 0]) := by kernel_rfl
theorem un_83 : Tryd.prog.underlying 83 = some (.array 4 3) := by kernel_rfl
theorem ixa_83 {o sz j f : Nat} {i : Int} (h0 : 0 ≤ i) (h1 : i < 4) : evIndexAddr Tryd.prog 83 (.own o sz j f) i = some (.own o sz j (f + i.toNat)) := by rw [ixa_of un_83 sz_3 h0 h1, Nat.mul_one]
theorem ixp_83 {k : Bool} {x : PV} {f : Nat} {i : Int} (h0 : 0 ≤ i) (h1 : i < 4) : evIndexAddr Tryd.prog 83 (.ptr k x f) i = some (.ptr k x (f + i.toNat)) := by rw [ixap_of un_83 sz_3 h0 h1, Nat.mul_one]
theorem bl_83 (ps : List (Nat × PV)) : evBuild Tryd.prog 83 ps = (fillP (plF [(0, 1), (1, 1), (2, 1), (3, 1)]) [.val (.int .i64 0), .val (.int .i64 0), .val (.int .i64 0), .val (.int .i64 0)] ps).map .agg := bla_of ze_83 rfl (by kernel_rfl) (pl := #[(0, 1), (1, 1), (2, 1), (3, 1)]) (by kernel_rfl) ps
theorem oz_83 : ofVal (.agg #[.int .i64 0, .int .i64 0, .int .i64 0, .int .i64 0]) = .agg [.val (.int .i64 0), .val (.int .i64 0), .val (.int .i64 0), .val (.int .i64 0)] := rfl
theorem ea_83 {Γ : Ctx} (s : AS) (ρ : Operand → PV) : evEff Tryd.prog Γ s ρ (.alloc 83) = some (.own s.nx 4 0 0, upd s.ob s.nx (some (83, 4, [.agg [.val (.int .i64 0), .val (.int .i64 0), .val (.int .i64 0), .val (.int .i64 0)]])), s.nx + 1) := ea_of ze_83 (by kernel_rfl) rfl rfl s ρ
theorem bs_83 : isByteSlice Tryd.prog 83 = false := by kernel_rfl
theorem is_83 : isStr Tryd.prog 83 = false := by kernel_rfl
theorem sz_94 : tySize Tryd.prog 94 = some 1 := by kernel_rfl
theorem ag_94 : tyAgg Tryd.prog 94 = some false := by kernel_rfl
theorem by_94 : tyBytes Tryd.prog 94 = some 8 := by kernel_rfl
theorem ze_94 : zeroOf Tryd.prog 94 = some (.int .u64 0) := by kernel_rfl
theorem un_94 : Tryd.prog.underlying 94 = some (.int .u64) := by kernel_rfl
theorem oz_94 : ofVal (.int .u64 0) = .val (.int .u64 0) := rfl
theorem ea_94 {Γ : Ctx} (s : AS) (ρ : Operand → PV) : evEff Tryd.prog Γ s ρ (.alloc 94) = some (.own s.nx 1 0 0, upd s.ob s.nx (some (94, 1, [.val (.int .u64 0)])), s.nx + 1) := ea_of ze_94 (by kernel_rfl) rfl rfl s ρ
theorem bs_94 : isByteSlice Tryd.prog 94 = false := by kernel_rfl
theorem is_94 : isStr Tryd.prog 94 = false := by kernel_rfl
theorem sz_102 : tySize Tryd.prog 102 = some 2 := by kernel_rfl
theorem ag_102 : tyAgg Tryd.prog 102 = some true := by kernel_rfl
theorem by_102 : tyBytes Tryd.prog 102 = some 2 := by kernel_rfl
theorem ze_102 : zeroOf Tryd.prog 102 = some (.agg #[.int .u8 0, .int .u8 0]) := by kernel_rfl
theorem fo_102_0 : fieldOff Tryd.prog 102 0 = some 0 := by kernel_rfl
theorem fo_102_1 : fieldOff Tryd.prog 102 1 = some 1 := by kernel_rfl
theorem pl_102 : structPlaces Tryd.prog 102 = some #[(0, 1), (1, 1)] := by kernel_rfl
theorem bl_102 (ps : List (Nat × PV)) : evBuild Tryd.prog 102 ps = (fillP (plF [(0, 1), (1, 1)]) [.val (.int .u8 0), .val (.int .u8 0)] ps).map .agg := bl_of ze_102 rfl pl_102 ps
theorem oz_102 : ofVal (.agg #[.int .u8 0, .int .u8 0]) = .agg [.val (.int .u8 0), .val (.int .u8 0)] := rfl
theorem ea_102 {Γ : Ctx} (s : AS) (ρ : Operand → PV) : evEff Tryd.prog Γ s ρ (.alloc 102) = some (.own s.nx 2 0 0, upd s.ob s.nx (some (102, 2, [.agg [.val (.int .u8 0), .val (.int .u8 0)]])), s.nx + 1) := ea_of ze_102 (by kernel_rfl) rfl rfl s ρ
theorem bz_102 {Γ : Ctx} {ob : Objs} {ρ : Operand → PV} {ty : Nat} : evVal Tryd.prog Γ ob ρ ty (.build 102 #[]) = some (.agg [.val (.int .u8 0), .val (.int .u8 0)]) := (show evBuild Tryd.prog 102 [] = some (.agg [.val (.int .u8 0), .val (.int .u8 0)]) from by kernel_rfl)
theorem bs_102 : isByteSlice Tryd.prog 102 = false := by kernel_rfl
theorem is_102 : isStr Tryd.prog 102 = false := by kernel_rfl
theorem sz_103 : tySize Tryd.prog 103 = some 2 := by kernel_rfl
theorem ag_103 : tyAgg Tryd.prog 103 = some true := by kernel_rfl
theorem by_103 : tyBytes Tryd.prog 103 = some 2 := by kernel_rfl
theorem ze_103 : zeroOf Tryd.prog 103 = some (.agg #[.int .u8 0, .int .u8 0]) := by kernel_rfl
theorem fo_103_0 : fieldOff Tryd.prog 103 0 = some 0 := by kernel_rfl
theorem fo_103_1 : fieldOff Tryd.prog 103 1 = some 1 := by kernel_rfl
theorem pl_103 : structPlaces Tryd.prog 103 = some #[(0, 1), (1, 1)] := by kernel_rfl
theorem bl_103 (ps : List (Nat × PV)) : evBuild Tryd.prog 103 ps = (fillP (plF [(0, 1), (1, 1)]) [.val (.int .u8 0), .val (.int .u8 0)] ps).map .agg := bl_of ze_103 rfl pl_103 ps
theorem oz_103 : ofVal (.agg #[.int .u8 0, .int .u8 0]) = .agg [.val (.int .u8 0), .val (.int .u8 0)] := rfl
theorem ea_103 {Γ : Ctx} (s : AS) (ρ : Operand → PV) : evEff Tryd.prog Γ s ρ (.alloc 103) = some (.own s.nx 2 0 0, upd s.ob s.nx (some (103, 2, [.agg [.val (.int .u8 0), .val (.int .u8 0)]])), s.nx + 1) := ea_of ze_103 (by kernel_rfl) rfl rfl s ρ
theorem bz_103 {Γ : Ctx} {ob : Objs} {ρ : Operand → PV} {ty : Nat} : evVal Tryd.prog Γ ob ρ ty (.build 103 #[]) = some (.agg [.val (.int .u8 0), .val (.int .u8 0)]) := (show evBuild Tryd.prog 103 [] = some (.agg [.val (.int .u8 0), .val (.int .u8 0)]) from by kernel_rfl)
theorem bs_103 : isByteSlice Tryd.prog 103 = false := by kernel_rfl
theorem is_103 : isStr Tryd.prog 103 = false := by kernel_rfl
theorem sz_104 : tySize Tryd.prog 104 = some 32 := by kernel_rfl
theorem ag_104 : tyAgg Tryd.prog 104 = some true := by kernel_rfl
theorem by_104 : tyBytes Tryd.prog 104 = some 32 := by kernel_rfl
theorem ze_104 : zeroOf Tryd.prog 104 = some (.agg #[.int .u8 0, .int .u8 0, .int .u8 0, .int .u8 0, .int .u8 0, .int .u8 0, .int .u8 0, .int .u8 0, .int .u8 0, .int .u8 0, .int .u8 0, .int .u8 0, .int .u8 0, .int .u8 0, .int .u8 0, .int .u8 0, .int .u8 0, .int .u8 0, .int .u8 0, .int .u8 0, .int .u8 0, .int .u8 0, .int .u8 0, .int .u8 0, .int .u8 0, .int .u8 0, .int .u8 0, .int .u8 0, .int .u8 0, .int .u8 0, .int .u8 0, .int .u8 0]) := by kernel_rfl
theorem un_104 : Tryd.prog.underlying 104 = some (.array 16 103) := by kernel_rfl
theorem oz_104 : ofVal (.agg #[.int .u8 0, .int .u8 0, .int .u8 0, .int .u8 0, .int .u8 0, .int .u8 0, .int .u8 0, .int .u8 0, .int .u8 0, .int .u8 0, .int .u8 0, .int .u8 0, .int .u8 0, .int .u8 0, .int .u8 0, .int .u8 0, .int .u8 0, .int .u8 0, .int .u8 0, .int .u8 0, .int .u8 0, .int .u8 0, .int .u8 0, .int .u8 0, .int .u8 0, .int .u8 0, .int .u8 0, .int .u8 0, .int .u8 0, .int .u8 0, .int .u8 0, .int .u8 0]) = .agg [.val (.int .u8 0), .val (.int .u8 0), .val (.int .u8 0), .val (.int .u8 0), .val (.int .u8 0), .val (.int .u8 0), .val (.int .u8 0), .val (.int .u8 0), .val (.int .u8 0), .val (.int .u8 0), .val (.int .u8 0), .val (.int .u8 0), .val (.int .u8 0), .val (.int .u8 0), .val (.int .u8 0), .val (.int .u8 0), .val (.int .u8 0), .val (.int .u8 0), .val (.int .u8 0), .val (.int .u8 0), .val (.int .u8 0), .val (.int .u8 0), .val (.int .u8 0), .val (.int .u8 0), .val (.int .u8 0), .val (.int .u8 0), .val (.int .u8 0), .val (.int .u8 0), .val (.int .u8 0), .val (.int .u8 0), .val (.int .u8 0), .val (.int .u8 0)] := rfl
theorem ea_104 {Γ : Ctx} (s : AS) (ρ : Operand → PV) : evEff Tryd.prog Γ s ρ (.alloc 104) = some (.own s.nx 32 0 0, upd s.ob s.nx (some (104, 32, [.agg [.val (.int .u8 0), .val (.int .u8 0), .val (.int .u8 0), .val (.int .u8 0), .val (.int .u8 0), .val (.int .u8 0), .val (.int .u8 0), .val (.int .u8 0), .val (.int .u8 0), .val (.int .u8 0), .val (.int .u8 0), .val (.int .u8 0), .val (.int .u8 0), .val (.int .u8 0), .val (.int .u8 0), .val (.int .u8 0), .val (.int .u8 0), .val (.int .u8 0), .val (.int .u8 0), .val (.int .u8 0), .val (.int .u8 0), .val (.int .u8 0), .val (.int .u8 0), .val (.int .u8 0), .val (.int .u8 0), .val (.int .u8 0), .val (.int .u8 0), .val (.int .u8 0), .val (.int .u8 0), .val (.int .u8 0), .val (.int .u8 0), .val (.int .u8 0)]])), s.nx + 1) := ea_of ze_104 (by kernel_rfl) rfl rfl s ρ
theorem bs_104 : isByteSlice Tryd.prog 104 = false := by kernel_rfl
theorem is_104 : isStr Tryd.prog 104 = false := by kernel_rfl
theorem sz_105 : tySize Tryd.prog 105 = some 1 := by kernel_rfl
theorem ag_105 : tyAgg Tryd.prog 105 = some false := by kernel_rfl
theorem by_105 : tyBytes Tryd.prog 105 = some 4 := by kernel_rfl
theorem ze_105 : zeroOf Tryd.prog 105 = some (.int .u32 0) := by kernel_rfl
theorem un_105 : Tryd.prog.underlying 105 = some (.int .u32) := by kernel_rfl
theorem oz_105 : ofVal (.int .u32 0) = .val (.int .u32 0) := rfl
theorem ea_105 {Γ : Ctx} (s : AS) (ρ : Operand → PV) : evEff Tryd.prog Γ s ρ (.alloc 105) = some (.own s.nx 1 0 0, upd s.ob s.nx (some (105, 1, [.val (.int .u32 0)])), s.nx + 1) := ea_of ze_105 (by kernel_rfl) rfl rfl s ρ
theorem bs_105 : isByteSlice Tryd.prog 105 = false := by kernel_rfl
theorem is_105 : isStr Tryd.prog 105 = false := by kernel_rfl
theorem sz_22 : tySize Tryd.prog 22 = some 1 := by kernel_rfl
theorem ag_22 : tyAgg Tryd.prog 22 = some false := by kernel_rfl
theorem by_22 : tyBytes Tryd.prog 22 = some 24 := by kernel_rfl
theorem ze_22 : zeroOf Tryd.prog 22 = some (.slice none 0 0) := by kernel_rfl
theorem un_22 : Tryd.prog.underlying 22 = some (.slice 5) := by kernel_rfl
theorem el_22 : tyElem Tryd.prog 22 = some 5 := by kernel_rfl
theorem ix_22 {k : Bool} {es : List PV} {i : Int} (h0 : 0 ≤ i) (h1 : i < (es.length : Int)) : evIndexAddr Tryd.prog 22 (.lst k 1 es) i = some (.ptr k ((es[i.toNat]?).getD .dead) 0) := ix_lst un_22 sz_5 h0 h1
theorem ixr_22 {o j n : Nat} {i : Int} (h0 : 0 ≤ i) (h1 : i < (n : Int)) : evIndexAddr Tryd.prog 22 (.row o 1 j n) i = some (.own o 1 (j + i.toNat) 0) := ix_row un_22 sz_5 h0 h1
theorem sl_22 {k : Bool} {es : List PV} {lo hi : Option Int} (h0 : 0 ≤ lo.getD 0) (h1 : lo.getD 0 ≤ hi.getD es.length) (h2 : hi.getD es.length ≤ es.length) : evSlice Tryd.prog 22 (.lst k 1 es) lo hi = some (.lst k 1 ((es.drop (lo.getD 0).toNat).take ((hi.getD es.length).toNat - (lo.getD 0).toNat))) := sl_lst un_22 sz_5 h0 h1 h2
theorem slr_22 {o i n : Nat} {lo hi : Option Int} (h0 : 0 ≤ lo.getD 0) (h1 : lo.getD 0 < hi.getD n) (h2 : hi.getD n ≤ n) : evSlice Tryd.prog 22 (.row o 1 i n) lo hi = some (.row o 1 (i + (lo.getD 0).toNat) ((hi.getD n).toNat - (lo.getD 0).toNat)) := sl_rowlt un_22 sz_5 h0 h1 h2
theorem sle_22 {o i n : Nat} {lo hi : Option Int} (h0 : 0 ≤ lo.getD 0) (h1 : lo.getD 0 = hi.getD n) (h2 : hi.getD n ≤ n) : evSlice Tryd.prog 22 (.row o 1 i n) lo hi = some (.lst true 1 []) := sl_roweq un_22 sz_5 h0 h1 h2
theorem lpl_22 {ty sz : Nat} {k : Bool} {es : List PV} : lenP Tryd.prog 22 ty (.lst k sz es) = some (.val (.int .i64 es.length)) := lp_lst el_22
theorem lpr_22 {ty o sz i n : Nat} : lenP Tryd.prog 22 ty (.row o sz i n) = some (.val (.int .i64 n)) := lp_row el_22
theorem lpn_22 {ty : Nat} : lenP Tryd.prog 22 ty (.val (.slice none 0 0)) = some (.val (.int .i64 0)) := lp_nil un_22
theorem oz_22 : ofVal (.slice none 0 0) = .val (.slice none 0 0) := rfl
theorem ea_22 {Γ : Ctx} (s : AS) (ρ : Operand → PV) : evEff Tryd.prog Γ s ρ (.alloc 22) = some (.own s.nx 1 0 0, upd s.ob s.nx (some (22, 1, [.val (.slice none 0 0)])), s.nx + 1) := ea_of ze_22 (by kernel_rfl) rfl rfl s ρ
theorem em_22 {Γ : Ctx} (s : AS) (ρ : Operand → PV) (l c : Operand) : evEff Tryd.prog Γ s ρ (.makeSlice 22 l c) = mkEv 5 1 1 (.int .u8 0) s (ρ l) (ρ c) := em_of el_22 ze_5 sz_5 by_5 (by kernel_rfl) rfl s ρ l c
theorem eap_22 {Γ : Ctx} (s : AS) (ρ : Operand → PV) (x y : Operand) : evEff Tryd.prog Γ s ρ (.call { callee := .builtin .append, args := #[x, y], argTypes := #[22, 22] }) = apEv 5 1 1 s.nx s.ob (ρ x) (obOf s.ob (ρ x)) (sliceEs s.ob 1 (ρ y)) := eap_of el_22 ze_5 sz_5 by_5 (by decide) rfl s ρ x y
theorem ecp_22 {Γ : Ctx} (s : AS) (ρ : Operand → PV) (x y : Operand) (t' : Nat) : evEff Tryd.prog Γ s ρ (.call { callee := .builtin .copy, args := #[x, y], argTypes := #[22, t'] }) = cpX 1 s.nx s.ob (ρ x) (obOf s.ob (ρ x)) (srcEs s.ob 1 (ρ y)) := ecp_of el_22 sz_5 s ρ x y t'
theorem bs_22 : isByteSlice Tryd.prog 22 = true := by kernel_rfl
theorem is_22 : isStr Tryd.prog 22 = false := by kernel_rfl
theorem sz_23 : tySize Tryd.prog 23 = some 1 := by kernel_rfl
theorem ag_23 : tyAgg Tryd.prog 23 = some false := by kernel_rfl
theorem by_23 : tyBytes Tryd.prog 23 = some 24 := by kernel_rfl
theorem ze_23 : zeroOf Tryd.prog 23 = some (.slice none 0 0) := by kernel_rfl
theorem un_23 : Tryd.prog.underlying 23 = some (.slice 9) := by kernel_rfl
theorem el_23 : tyElem Tryd.prog 23 = some 9 := by kernel_rfl
theorem ix_23 {k : Bool} {es : List PV} {i : Int} (h0 : 0 ≤ i) (h1 : i < (es.length : Int)) : evIndexAddr Tryd.prog 23 (.lst k 1 es) i = some (.ptr k ((es[i.toNat]?).getD .dead) 0) := ix_lst un_23 sz_9 h0 h1
theorem ixr_23 {o j n : Nat} {i : Int} (h0 : 0 ≤ i) (h1 : i < (n : Int)) : evIndexAddr Tryd.prog 23 (.row o 1 j n) i = some (.own o 1 (j + i.toNat) 0) := ix_row un_23 sz_9 h0 h1
theorem sl_23 {k : Bool} {es : List PV} {lo hi : Option Int} (h0 : 0 ≤ lo.getD 0) (h1 : lo.getD 0 ≤ hi.getD es.length) (h2 : hi.getD es.length ≤ es.length) : evSlice Tryd.prog 23 (.lst k 1 es) lo hi = some (.lst k 1 ((es.drop (lo.getD 0).toNat).take ((hi.getD es.length).toNat - (lo.getD 0).toNat))) := sl_lst un_23 sz_9 h0 h1 h2
theorem slr_23 {o i n : Nat} {lo hi : Option Int} (h0 : 0 ≤ lo.getD 0) (h1 : lo.getD 0 < hi.getD n) (h2 : hi.getD n ≤ n) : evSlice Tryd.prog 23 (.row o 1 i n) lo hi = some (.row o 1 (i + (lo.getD 0).toNat) ((hi.getD n).toNat - (lo.getD 0).toNat)) := sl_rowlt un_23 sz_9 h0 h1 h2
theorem sle_23 {o i n : Nat} {lo hi : Option Int} (h0 : 0 ≤ lo.getD 0) (h1 : lo.getD 0 = hi.getD n) (h2 : hi.getD n ≤ n) : evSlice Tryd.prog 23 (.row o 1 i n) lo hi = some (.lst true 1 []) := sl_roweq un_23 sz_9 h0 h1 h2
theorem lpl_23 {ty sz : Nat} {k : Bool} {es : List PV} : lenP Tryd.prog 23 ty (.lst k sz es) = some (.val (.int .i64 es.length)) := lp_lst el_23
theorem lpr_23 {ty o sz i n : Nat} : lenP Tryd.prog 23 ty (.row o sz i n) = some (.val (.int .i64 n)) := lp_row el_23
theorem lpn_23 {ty : Nat} : lenP Tryd.prog 23 ty (.val (.slice none 0 0)) = some (.val (.int .i64 0)) := lp_nil un_23
theorem oz_23 : ofVal (.slice none 0 0) = .val (.slice none 0 0) := rfl
theorem ea_23 {Γ : Ctx} (s : AS) (ρ : Operand → PV) : evEff Tryd.prog Γ s ρ (.alloc 23) = some (.own s.nx 1 0 0, upd s.ob s.nx (some (23, 1, [.val (.slice none 0 0)])), s.nx + 1) := ea_of ze_23 (by kernel_rfl) rfl rfl s ρ
theorem em_23 {Γ : Ctx} (s : AS) (ρ : Operand → PV) (l c : Operand) : evEff Tryd.prog Γ s ρ (.makeSlice 23 l c) = mkEv 9 1 16 (.string ByteArray.empty) s (ρ l) (ρ c) := em_of el_23 ze_9 sz_9 by_9 (by kernel_rfl) rfl s ρ l c
theorem eap_23 {Γ : Ctx} (s : AS) (ρ : Operand → PV) (x y : Operand) : evEff Tryd.prog Γ s ρ (.call { callee := .builtin .append, args := #[x, y], argTypes := #[23, 23] }) = apEv 9 1 16 s.nx s.ob (ρ x) (obOf s.ob (ρ x)) (sliceEs s.ob 1 (ρ y)) := eap_of el_23 ze_9 sz_9 by_9 (by decide) rfl s ρ x y
theorem ecp_23 {Γ : Ctx} (s : AS) (ρ : Operand → PV) (x y : Operand) (t' : Nat) : evEff Tryd.prog Γ s ρ (.call { callee := .builtin .copy, args := #[x, y], argTypes := #[23, t'] }) = cpX 1 s.nx s.ob (ρ x) (obOf s.ob (ρ x)) (srcEs s.ob 1 (ρ y)) := ecp_of el_23 sz_9 s ρ x y t'
theorem bs_23 : isByteSlice Tryd.prog 23 = false := by kernel_rfl
theorem is_23 : isStr Tryd.prog 23 = false := by kernel_rfl
theorem sz_56 : tySize Tryd.prog 56 = some 1 := by kernel_rfl
theorem ag_56 : tyAgg Tryd.prog 56 = some false := by kernel_rfl
theorem by_56 : tyBytes Tryd.prog 56 = some 24 := by kernel_rfl
theorem ze_56 : zeroOf Tryd.prog 56 = some (.slice none 0 0) := by kernel_rfl
theorem un_56 : Tryd.prog.underlying 56 = some (.slice 64) := by kernel_rfl
theorem el_56 : tyElem Tryd.prog 56 = some 64 := by kernel_rfl
theorem ix_56 {k : Bool} {es : List PV} {i : Int} (h0 : 0 ≤ i) (h1 : i < (es.length : Int)) : evIndexAddr Tryd.prog 56 (.lst k 7 es) i = some (.ptr k ((es[i.toNat]?).getD .dead) 0) := ix_lst un_56 sz_64 h0 h1
theorem ixr_56 {o j n : Nat} {i : Int} (h0 : 0 ≤ i) (h1 : i < (n : Int)) : evIndexAddr Tryd.prog 56 (.row o 7 j n) i = some (.own o 7 (j + i.toNat) 0) := ix_row un_56 sz_64 h0 h1
theorem sl_56 {k : Bool} {es : List PV} {lo hi : Option Int} (h0 : 0 ≤ lo.getD 0) (h1 : lo.getD 0 ≤ hi.getD es.length) (h2 : hi.getD es.length ≤ es.length) : evSlice Tryd.prog 56 (.lst k 7 es) lo hi = some (.lst k 7 ((es.drop (lo.getD 0).toNat).take ((hi.getD es.length).toNat - (lo.getD 0).toNat))) := sl_lst un_56 sz_64 h0 h1 h2
theorem slr_56 {o i n : Nat} {lo hi : Option Int} (h0 : 0 ≤ lo.getD 0) (h1 : lo.getD 0 < hi.getD n) (h2 : hi.getD n ≤ n) : evSlice Tryd.prog 56 (.row o 7 i n) lo hi = some (.row o 7 (i + (lo.getD 0).toNat) ((hi.getD n).toNat - (lo.getD 0).toNat)) := sl_rowlt un_56 sz_64 h0 h1 h2
theorem sle_56 {o i n : Nat} {lo hi : Option Int} (h0 : 0 ≤ lo.getD 0) (h1 : lo.getD 0 = hi.getD n) (h2 : hi.getD n ≤ n) : evSlice Tryd.prog 56 (.row o 7 i n) lo hi = some (.lst true 7 []) := sl_roweq un_56 sz_64 h0 h1 h2
theorem lpl_56 {ty sz : Nat} {k : Bool} {es : List PV} : lenP Tryd.prog 56 ty (.lst k sz es) = some (.val (.int .i64 es.length)) := lp_lst el_56
theorem lpr_56 {ty o sz i n : Nat} : lenP Tryd.prog 56 ty (.row o sz i n) = some (.val (.int .i64 n)) := lp_row el_56
theorem lpn_56 {ty : Nat} : lenP Tryd.prog 56 ty (.val (.slice none 0 0)) = some (.val (.int .i64 0)) := lp_nil un_56
theorem oz_56 : ofVal (.slice none 0 0) = .val (.slice none 0 0) := rfl
theorem ea_56 {Γ : Ctx} (s : AS) (ρ : Operand → PV) : evEff Tryd.prog Γ s ρ (.alloc 56) = some (.own s.nx 1 0 0, upd s.ob s.nx (some (56, 1, [.val (.slice none 0 0)])), s.nx + 1) := ea_of ze_56 (by kernel_rfl) rfl rfl s ρ
theorem em_56 {Γ : Ctx} (s : AS) (ρ : Operand → PV) (l c : Operand) : evEff Tryd.prog Γ s ρ (.makeSlice 56 l c) = mkEv 64 7 56 (.agg #[.int .i64 0, .int .i64 0, .int .i64 0, .int .i64 0, .int .i64 0, .int .i64 0, .bool false]) s (ρ l) (ρ c) := em_of el_56 ze_64 sz_64 by_64 (by kernel_rfl) rfl s ρ l c
theorem eap_56 {Γ : Ctx} (s : AS) (ρ : Operand → PV) (x y : Operand) : evEff Tryd.prog Γ s ρ (.call { callee := .builtin .append, args := #[x, y], argTypes := #[56, 56] }) = apEv 64 7 56 s.nx s.ob (ρ x) (obOf s.ob (ρ x)) (sliceEs s.ob 7 (ρ y)) := eap_of el_56 ze_64 sz_64 by_64 (by decide) rfl s ρ x y
theorem ecp_56 {Γ : Ctx} (s : AS) (ρ : Operand → PV) (x y : Operand) (t' : Nat) : evEff Tryd.prog Γ s ρ (.call { callee := .builtin .copy, args := #[x, y], argTypes := #[56, t'] }) = cpX 7 s.nx s.ob (ρ x) (obOf s.ob (ρ x)) (srcEs s.ob 7 (ρ y)) := ecp_of el_56 sz_64 s ρ x y t'
theorem bs_56 : isByteSlice Tryd.prog 56 = false := by kernel_rfl
theorem is_56 : isStr Tryd.prog 56 = false := by kernel_rfl
theorem sz_59 : tySize Tryd.prog 59 = some 1 := by kernel_rfl
theorem ag_59 : tyAgg Tryd.prog 59 = some false := by kernel_rfl
theorem by_59 : tyBytes Tryd.prog 59 = some 24 := by kernel_rfl
theorem ze_59 : zeroOf Tryd.prog 59 = some (.slice none 0 0) := by kernel_rfl
theorem un_59 : Tryd.prog.underlying 59 = some (.slice 3) := by kernel_rfl
theorem el_59 : tyElem Tryd.prog 59 = some 3 := by kernel_rfl
theorem ix_59 {k : Bool} {es : List PV} {i : Int} (h0 : 0 ≤ i) (h1 : i < (es.length : Int)) : evIndexAddr Tryd.prog 59 (.lst k 1 es) i = some (.ptr k ((es[i.toNat]?).getD .dead) 0) := ix_lst un_59 sz_3 h0 h1
theorem ixr_59 {o j n : Nat} {i : Int} (h0 : 0 ≤ i) (h1 : i < (n : Int)) : evIndexAddr Tryd.prog 59 (.row o 1 j n) i = some (.own o 1 (j + i.toNat) 0) := ix_row un_59 sz_3 h0 h1
theorem sl_59 {k : Bool} {es : List PV} {lo hi : Option Int} (h0 : 0 ≤ lo.getD 0) (h1 : lo.getD 0 ≤ hi.getD es.length) (h2 : hi.getD es.length ≤ es.length) : evSlice Tryd.prog 59 (.lst k 1 es) lo hi = some (.lst k 1 ((es.drop (lo.getD 0).toNat).take ((hi.getD es.length).toNat - (lo.getD 0).toNat))) := sl_lst un_59 sz_3 h0 h1 h2
theorem slr_59 {o i n : Nat} {lo hi : Option Int} (h0 : 0 ≤ lo.getD 0) (h1 : lo.getD 0 < hi.getD n) (h2 : hi.getD n ≤ n) : evSlice Tryd.prog 59 (.row o 1 i n) lo hi = some (.row o 1 (i + (lo.getD 0).toNat) ((hi.getD n).toNat - (lo.getD 0).toNat)) := sl_rowlt un_59 sz_3 h0 h1 h2
theorem sle_59 {o i n : Nat} {lo hi : Option Int} (h0 : 0 ≤ lo.getD 0) (h1 : lo.getD 0 = hi.getD n) (h2 : hi.getD n ≤ n) : evSlice Tryd.prog 59 (.row o 1 i n) lo hi = some (.lst true 1 []) := sl_roweq un_59 sz_3 h0 h1 h2
theorem lpl_59 {ty sz : Nat} {k : Bool} {es : List PV} : lenP Tryd.prog 59 ty (.lst k sz es) = some (.val (.int .i64 es.length)) := lp_lst el_59
theorem lpr_59 {ty o sz i n : Nat} : lenP Tryd.prog 59 ty (.row o sz i n) = some (.val (.int .i64 n)) := lp_row el_59
theorem lpn_59 {ty : Nat} : lenP Tryd.prog 59 ty (.val (.slice none 0 0)) = some (.val (.int .i64 0)) := lp_nil un_59
theorem oz_59 : ofVal (.slice none 0 0) = .val (.slice none 0 0) := rfl
theorem ea_59 {Γ : Ctx} (s : AS) (ρ : Operand → PV) : evEff Tryd.prog Γ s ρ (.alloc 59) = some (.own s.nx 1 0 0, upd s.ob s.nx (some (59, 1, [.val (.slice none 0 0)])), s.nx + 1) := ea_of ze_59 (by kernel_rfl) rfl rfl s ρ
theorem em_59 {Γ : Ctx} (s : AS) (ρ : Operand → PV) (l c : Operand) : evEff Tryd.prog Γ s ρ (.makeSlice 59 l c) = mkEv 3 1 8 (.int .i64 0) s (ρ l) (ρ c) := em_of el_59 ze_3 sz_3 by_3 (by kernel_rfl) rfl s ρ l c
theorem eap_59 {Γ : Ctx} (s : AS) (ρ : Operand → PV) (x y : Operand) : evEff Tryd.prog Γ s ρ (.call { callee := .builtin .append, args := #[x, y], argTypes := #[59, 59] }) = apEv 3 1 8 s.nx s.ob (ρ x) (obOf s.ob (ρ x)) (sliceEs s.ob 1 (ρ y)) := eap_of el_59 ze_3 sz_3 by_3 (by decide) rfl s ρ x y
theorem ecp_59 {Γ : Ctx} (s : AS) (ρ : Operand → PV) (x y : Operand) (t' : Nat) : evEff Tryd.prog Γ s ρ (.call { callee := .builtin .copy, args := #[x, y], argTypes := #[59, t'] }) = cpX 1 s.nx s.ob (ρ x) (obOf s.ob (ρ x)) (srcEs s.ob 1 (ρ y)) := ecp_of el_59 sz_3 s ρ x y t'
theorem bs_59 : isByteSlice Tryd.prog 59 = false := by kernel_rfl
theorem is_59 : isStr Tryd.prog 59 = false := by kernel_rfl
theorem sz_74 : tySize Tryd.prog 74 = some 1 := by kernel_rfl
theorem ag_74 : tyAgg Tryd.prog 74 = some false := by kernel_rfl
theorem by_74 : tyBytes Tryd.prog 74 = some 24 := by kernel_rfl
theorem ze_74 : zeroOf Tryd.prog 74 = some (.slice none 0 0) := by kernel_rfl
theorem un_74 : Tryd.prog.underlying 74 = some (.slice 83) := by kernel_rfl
theorem el_74 : tyElem Tryd.prog 74 = some 83 := by kernel_rfl
theorem ix_74 {k : Bool} {es : List PV} {i : Int} (h0 : 0 ≤ i) (h1 : i < (es.length : Int)) : evIndexAddr Tryd.prog 74 (.lst k 4 es) i = some (.ptr k ((es[i.toNat]?).getD .dead) 0) := ix_lst un_74 sz_83 h0 h1
theorem ixr_74 {o j n : Nat} {i : Int} (h0 : 0 ≤ i) (h1 : i < (n : Int)) : evIndexAddr Tryd.prog 74 (.row o 4 j n) i = some (.own o 4 (j + i.toNat) 0) := ix_row un_74 sz_83 h0 h1
theorem sl_74 {k : Bool} {es : List PV} {lo hi : Option Int} (h0 : 0 ≤ lo.getD 0) (h1 : lo.getD 0 ≤ hi.getD es.length) (h2 : hi.getD es.length ≤ es.length) : evSlice Tryd.prog 74 (.lst k 4 es) lo hi = some (.lst k 4 ((es.drop (lo.getD 0).toNat).take ((hi.getD es.length).toNat - (lo.getD 0).toNat))) := sl_lst un_74 sz_83 h0 h1 h2
theorem slr_74 {o i n : Nat} {lo hi : Option Int} (h0 : 0 ≤ lo.getD 0) (h1 : lo.getD 0 < hi.getD n) (h2 : hi.getD n ≤ n) : evSlice Tryd.prog 74 (.row o 4 i n) lo hi = some (.row o 4 (i + (lo.getD 0).toNat) ((hi.getD n).toNat - (lo.getD 0).toNat)) := sl_rowlt un_74 sz_83 h0 h1 h2
theorem sle_74 {o i n : Nat} {lo hi : Option Int} (h0 : 0 ≤ lo.getD 0) (h1 : lo.getD 0 = hi.getD n) (h2 : hi.getD n ≤ n) : evSlice Tryd.prog 74 (.row o 4 i n) lo hi = some (.lst true 4 []) := sl_roweq un_74 sz_83 h0 h1 h2
theorem lpl_74 {ty sz : Nat} {k : Bool} {es : List PV} : lenP Tryd.prog 74 ty (.lst k sz es) = some (.val (.int .i64 es.length)) := lp_lst el_74
theorem lpr_74 {ty o sz i n : Nat} : lenP Tryd.prog 74 ty (.row o sz i n) = some (.val (.int .i64 n)) := lp_row el_74
theorem lpn_74 {ty : Nat} : lenP Tryd.prog 74 ty (.val (.slice none 0 0)) = some (.val (.int .i64 0)) := lp_nil un_74
theorem oz_74 : ofVal (.slice none 0 0) = .val (.slice none 0 0) := rfl
theorem ea_74 {Γ : Ctx} (s : AS) (ρ : Operand → PV) : evEff Tryd.prog Γ s ρ (.alloc 74) = some (.own s.nx 1 0 0, upd s.ob s.nx (some (74, 1, [.val (.slice none 0 0)])), s.nx + 1) := ea_of ze_74 (by kernel_rfl) rfl rfl s ρ
theorem em_74 {Γ : Ctx} (s : AS) (ρ : Operand → PV) (l c : Operand) : evEff Tryd.prog Γ s ρ (.makeSlice 74 l c) = mkEv 83 4 32 (.agg #[.int .i64 0, .int .i64 0, .int .i64 0, .int .i64 0]) s (ρ l) (ρ c) := em_of el_74 ze_83 sz_83 by_83 (by kernel_rfl) rfl s ρ l c
theorem eap_74 {Γ : Ctx} (s : AS) (ρ : Operand → PV) (x y : Operand) : evEff Tryd.prog Γ s ρ (.call { callee := .builtin .append, args := #[x, y], argTypes := #[74, 74] }) = apEv 83 4 32 s.nx s.ob (ρ x) (obOf s.ob (ρ x)) (sliceEs s.ob 4 (ρ y)) := eap_of el_74 ze_83 sz_83 by_83 (by decide) rfl s ρ x y
theorem ecp_74 {Γ : Ctx} (s : AS) (ρ : Operand → PV) (x y : Operand) (t' : Nat) : evEff Tryd.prog Γ s ρ (.call { callee := .builtin .copy, args := #[x, y], argTypes := #[74, t'] }) = cpX 4 s.nx s.ob (ρ x) (obOf s.ob (ρ x)) (srcEs s.ob 4 (ρ y)) := ecp_of el_74 sz_83 s ρ x y t'
theorem bs_74 : isByteSlice Tryd.prog 74 = false := by kernel_rfl
theorem is_74 : isStr Tryd.prog 74 = false := by kernel_rfl
theorem sz_75 : tySize Tryd.prog 75 = some 1 := by kernel_rfl
theorem ag_75 : tyAgg Tryd.prog 75 = some false := by kernel_rfl
theorem by_75 : tyBytes Tryd.prog 75 = some 24 := by kernel_rfl
theorem ze_75 : zeroOf Tryd.prog 75 = some (.slice none 0 0) := by kernel_rfl
theorem un_75 : Tryd.prog.underlying 75 = some (.slice 76) := by kernel_rfl
theorem el_75 : tyElem Tryd.prog 75 = some 76 := by kernel_rfl
theorem ix_75 {k : Bool} {es : List PV} {i : Int} (h0 : 0 ≤ i) (h1 : i < (es.length : Int)) : evIndexAddr Tryd.prog 75 (.lst k 4 es) i = some (.ptr k ((es[i.toNat]?).getD .dead) 0) := ix_lst un_75 sz_76 h0 h1
theorem ixr_75 {o j n : Nat} {i : Int} (h0 : 0 ≤ i) (h1 : i < (n : Int)) : evIndexAddr Tryd.prog 75 (.row o 4 j n) i = some (.own o 4 (j + i.toNat) 0) := ix_row un_75 sz_76 h0 h1
theorem sl_75 {k : Bool} {es : List PV} {lo hi : Option Int} (h0 : 0 ≤ lo.getD 0) (h1 : lo.getD 0 ≤ hi.getD es.length) (h2 : hi.getD es.length ≤ es.length) : evSlice Tryd.prog 75 (.lst k 4 es) lo hi = some (.lst k 4 ((es.drop (lo.getD 0).toNat).take ((hi.getD es.length).toNat - (lo.getD 0).toNat))) := sl_lst un_75 sz_76 h0 h1 h2
theorem slr_75 {o i n : Nat} {lo hi : Option Int} (h0 : 0 ≤ lo.getD 0) (h1 : lo.getD 0 < hi.getD n) (h2 : hi.getD n ≤ n) : evSlice Tryd.prog 75 (.row o 4 i n) lo hi = some (.row o 4 (i + (lo.getD 0).toNat) ((hi.getD n).toNat - (lo.getD 0).toNat)) := sl_rowlt un_75 sz_76 h0 h1 h2
theorem sle_75 {o i n : Nat} {lo hi : Option Int} (h0 : 0 ≤ lo.getD 0) (h1 : lo.getD 0 = hi.getD n) (h2 : hi.getD n ≤ n) : evSlice Tryd.prog 75 (.row o 4 i n) lo hi = some (.lst true 4 []) := sl_roweq un_75 sz_76 h0 h1 h2
theorem lpl_75 {ty sz : Nat} {k : Bool} {es : List PV} : lenP Tryd.prog 75 ty (.lst k sz es) = some (.val (.int .i64 es.length)) := lp_lst el_75
theorem lpr_75 {ty o sz i n : Nat} : lenP Tryd.prog 75 ty (.row o sz i n) = some (.val (.int .i64 n)) := lp_row el_75
theorem lpn_75 {ty : Nat} : lenP Tryd.prog 75 ty (.val (.slice none 0 0)) = some (.val (.int .i64 0)) := lp_nil un_75
theorem oz_75 : ofVal (.slice none 0 0) = .val (.slice none 0 0) := rfl
theorem ea_75 {Γ : Ctx} (s : AS) (ρ : Operand → PV) : evEff Tryd.prog Γ s ρ (.alloc 75) = some (.own s.nx 1 0 0, upd s.ob s.nx (some (75, 1, [.val (.slice none 0 0)])), s.nx + 1) := ea_of ze_75 (by kernel_rfl) rfl rfl s ρ
theorem em_75 {Γ : Ctx} (s : AS) (ρ : Operand → PV) (l c : Operand) : evEff Tryd.prog Γ s ρ (.makeSlice 75 l c) = mkEv 76 4 4 (.agg #[.bool false, .bool false, .bool false, .bool false]) s (ρ l) (ρ c) := em_of el_75 ze_76 sz_76 by_76 (by kernel_rfl) rfl s ρ l c
theorem eap_75 {Γ : Ctx} (s : AS) (ρ : Operand → PV) (x y : Operand) : evEff Tryd.prog Γ s ρ (.call { callee := .builtin .append, args := #[x, y], argTypes := #[75, 75] }) = apEv 76 4 4 s.nx s.ob (ρ x) (obOf s.ob (ρ x)) (sliceEs s.ob 4 (ρ y)) := eap_of el_75 ze_76 sz_76 by_76 (by decide) rfl s ρ x y
theorem ecp_75 {Γ : Ctx} (s : AS) (ρ : Operand → PV) (x y : Operand) (t' : Nat) : evEff Tryd.prog Γ s ρ (.call { callee := .builtin .copy, args := #[x, y], argTypes := #[75, t'] }) = cpX 4 s.nx s.ob (ρ x) (obOf s.ob (ρ x)) (srcEs s.ob 4 (ρ y)) := ecp_of el_75 sz_76 s ρ x y t'
theorem bs_75 : isByteSlice Tryd.prog 75 = false := by kernel_rfl
theorem is_75 : isStr Tryd.prog 75 = false := by kernel_rfl
theorem cvi_2_2 {k : IntKind} {n : Int} {es : Option (List PV)} : convP Tryd.prog 2 2 false es (some (.int k n)) = some (.val (.int .i64 (IntKind.i64.wrap n))) := cv_int un_2 un_2
theorem cvi_2_3 {k : IntKind} {n : Int} {es : Option (List PV)} : convP Tryd.prog 2 3 false es (some (.int k n)) = some (.val (.int .i64 (IntKind.i64.wrap n))) := cv_int un_2 un_3
theorem cvi_2_5 {k : IntKind} {n : Int} {es : Option (List PV)} : convP Tryd.prog 2 5 false es (some (.int k n)) = some (.val (.int .u8 (IntKind.u8.wrap n))) := cv_int un_2 un_5
theorem cvi_2_12 {k : IntKind} {n : Int} {es : Option (List PV)} : convP Tryd.prog 2 12 false es (some (.int k n)) = some (.val (.int .u64 (IntKind.u64.wrap n))) := cv_int un_2 un_12
theorem cvi_2_21 {k : IntKind} {n : Int} {es : Option (List PV)} : convP Tryd.prog 2 21 false es (some (.int k n)) = some (.val (.int .i32 (IntKind.i32.wrap n))) := cv_int un_2 un_21
theorem cvi_2_94 {k : IntKind} {n : Int} {es : Option (List PV)} : convP Tryd.prog 2 94 false es (some (.int k n)) = some (.val (.int .u64 (IntKind.u64.wrap n))) := cv_int un_2 un_94
theorem cvi_2_105 {k : IntKind} {n : Int} {es : Option (List PV)} : convP Tryd.prog 2 105 false es (some (.int k n)) = some (.val (.int .u32 (IntKind.u32.wrap n))) := cv_int un_2 un_105
theorem cvi_3_2 {k : IntKind} {n : Int} {es : Option (List PV)} : convP Tryd.prog 3 2 false es (some (.int k n)) = some (.val (.int .i64 (IntKind.i64.wrap n))) := cv_int un_3 un_2
theorem cvi_3_3 {k : IntKind} {n : Int} {es : Option (List PV)} : convP Tryd.prog 3 3 false es (some (.int k n)) = some (.val (.int .i64 (IntKind.i64.wrap n))) := cv_int un_3 un_3
theorem cvi_3_5 {k : IntKind} {n : Int} {es : Option (List PV)} : convP Tryd.prog 3 5 false es (some (.int k n)) = some (.val (.int .u8 (IntKind.u8.wrap n))) := cv_int un_3 un_5
theorem cvi_3_12 {k : IntKind} {n : Int} {es : Option (List PV)} : convP Tryd.prog 3 12 false es (some (.int k n)) = some (.val (.int .u64 (IntKind.u64.wrap n))) := cv_int un_3 un_12
theorem cvi_3_21 {k : IntKind} {n : Int} {es : Option (List PV)} : convP Tryd.prog 3 21 false es (some (.int k n)) = some (.val (.int .i32 (IntKind.i32.wrap n))) := cv_int un_3 un_21
theorem cvi_3_94 {k : IntKind} {n : Int} {es : Option (List PV)} : convP Tryd.prog 3 94 false es (some (.int k n)) = some (.val (.int .u64 (IntKind.u64.wrap n))) := cv_int un_3 un_94
theorem cvi_3_105 {k : IntKind} {n : Int} {es : Option (List PV)} : convP Tryd.prog 3 105 false es (some (.int k n)) = some (.val (.int .u32 (IntKind.u32.wrap n))) := cv_int un_3 un_105
theorem cvi_5_2 {k : IntKind} {n : Int} {es : Option (List PV)} : convP Tryd.prog 5 2 false es (some (.int k n)) = some (.val (.int .i64 (IntKind.i64.wrap n))) := cv_int un_5 un_2
theorem cvi_5_3 {k : IntKind} {n : Int} {es : Option (List PV)} : convP Tryd.prog 5 3 false es (some (.int k n)) = some (.val (.int .i64 (IntKind.i64.wrap n))) := cv_int un_5 un_3
theorem cvi_5_5 {k : IntKind} {n : Int} {es : Option (List PV)} : convP Tryd.prog 5 5 false es (some (.int k n)) = some (.val (.int .u8 (IntKind.u8.wrap n))) := cv_int un_5 un_5
theorem cvi_5_12 {k : IntKind} {n : Int} {es : Option (List PV)} : convP Tryd.prog 5 12 false es (some (.int k n)) = some (.val (.int .u64 (IntKind.u64.wrap n))) := cv_int un_5 un_12
theorem cvi_5_21 {k : IntKind} {n : Int} {es : Option (List PV)} : convP Tryd.prog 5 21 false es (some (.int k n)) = some (.val (.int .i32 (IntKind.i32.wrap n))) := cv_int un_5 un_21
theorem cvi_5_94 {k : IntKind} {n : Int} {es : Option (List PV)} : convP Tryd.prog 5 94 false es (some (.int k n)) = some (.val (.int .u64 (IntKind.u64.wrap n))) := cv_int un_5 un_94
theorem cvi_5_105 {k : IntKind} {n : Int} {es : Option (List PV)} : convP Tryd.prog 5 105 false es (some (.int k n)) = some (.val (.int .u32 (IntKind.u32.wrap n))) := cv_int un_5 un_105
theorem cvi_12_2 {k : IntKind} {n : Int} {es : Option (List PV)} : convP Tryd.prog 12 2 false es (some (.int k n)) = some (.val (.int .i64 (IntKind.i64.wrap n))) := cv_int un_12 un_2
theorem cvi_12_3 {k : IntKind} {n : Int} {es : Option (List PV)} : convP Tryd.prog 12 3 false es (some (.int k n)) = some (.val (.int .i64 (IntKind.i64.wrap n))) := cv_int un_12 un_3
theorem cvi_12_5 {k : IntKind} {n : Int} {es : Option (List PV)} : convP Tryd.prog 12 5 false es (some (.int k n)) = some (.val (.int .u8 (IntKind.u8.wrap n))) := cv_int un_12 un_5
theorem cvi_12_12 {k : IntKind} {n : Int} {es : Option (List PV)} : convP Tryd.prog 12 12 false es (some (.int k n)) = some (.val (.int .u64 (IntKind.u64.wrap n))) := cv_int un_12 un_12
theorem cvi_12_21 {k : IntKind} {n : Int} {es : Option (List PV)} : convP Tryd.prog 12 21 false es (some (.int k n)) = some (.val (.int .i32 (IntKind.i32.wrap n))) := cv_int un_12 un_21
theorem cvi_12_94 {k : IntKind} {n : Int} {es : Option (List PV)} : convP Tryd.prog 12 94 false es (some (.int k n)) = some (.val (.int .u64 (IntKind.u64.wrap n))) := cv_int un_12 un_94
theorem cvi_12_105 {k : IntKind} {n : Int} {es : Option (List PV)} : convP Tryd.prog 12 105 false es (some (.int k n)) = some (.val (.int .u32 (IntKind.u32.wrap n))) := cv_int un_12 un_105
theorem cvi_21_2 {k : IntKind} {n : Int} {es : Option (List PV)} : convP Tryd.prog 21 2 false es (some (.int k n)) = some (.val (.int .i64 (IntKind.i64.wrap n))) := cv_int un_21 un_2
theorem cvi_21_3 {k : IntKind} {n : Int} {es : Option (List PV)} : convP Tryd.prog 21 3 false es (some (.int k n)) = some (.val (.int .i64 (IntKind.i64.wrap n))) := cv_int un_21 un_3
theorem cvi_21_5 {k : IntKind} {n : Int} {es : Option (List PV)} : convP Tryd.prog 21 5 false es (some (.int k n)) = some (.val (.int .u8 (IntKind.u8.wrap n))) := cv_int un_21 un_5
theorem cvi_21_12 {k : IntKind} {n : Int} {es : Option (List PV)} : convP Tryd.prog 21 12 false es (some (.int k n)) = some (.val (.int .u64 (IntKind.u64.wrap n))) := cv_int un_21 un_12
theorem cvi_21_21 {k : IntKind} {n : Int} {es : Option (List PV)} : convP Tryd.prog 21 21 false es (some (.int k n)) = some (.val (.int .i32 (IntKind.i32.wrap n))) := cv_int un_21 un_21
theorem cvi_21_94 {k : IntKind} {n : Int} {es : Option (List PV)} : convP Tryd.prog 21 94 false es (some (.int k n)) = some (.val (.int .u64 (IntKind.u64.wrap n))) := cv_int un_21 un_94
theorem cvi_21_105 {k : IntKind} {n : Int} {es : Option (List PV)} : convP Tryd.prog 21 105 false es (some (.int k n)) = some (.val (.int .u32 (IntKind.u32.wrap n))) := cv_int un_21 un_105
theorem cvi_94_2 {k : IntKind} {n : Int} {es : Option (List PV)} : convP Tryd.prog 94 2 false es (some (.int k n)) = some (.val (.int .i64 (IntKind.i64.wrap n))) := cv_int un_94 un_2
theorem cvi_94_3 {k : IntKind} {n : Int} {es : Option (List PV)} : convP Tryd.prog 94 3 false es (some (.int k n)) = some (.val (.int .i64 (IntKind.i64.wrap n))) := cv_int un_94 un_3
theorem cvi_94_5 {k : IntKind} {n : Int} {es : Option (List PV)} : convP Tryd.prog 94 5 false es (some (.int k n)) = some (.val (.int .u8 (IntKind.u8.wrap n))) := cv_int un_94 un_5
theorem cvi_94_12 {k : IntKind} {n : Int} {es : Option (List PV)} : convP Tryd.prog 94 12 false es (some (.int k n)) = some (.val (.int .u64 (IntKind.u64.wrap n))) := cv_int un_94 un_12
theorem cvi_94_21 {k : IntKind} {n : Int} {es : Option (List PV)} : convP Tryd.prog 94 21 false es (some (.int k n)) = some (.val (.int .i32 (IntKind.i32.wrap n))) := cv_int un_94 un_21
theorem cvi_94_94 {k : IntKind} {n : Int} {es : Option (List PV)} : convP Tryd.prog 94 94 false es (some (.int k n)) = some (.val (.int .u64 (IntKind.u64.wrap n))) := cv_int un_94 un_94
theorem cvi_94_105 {k : IntKind} {n : Int} {es : Option (List PV)} : convP Tryd.prog 94 105 false es (some (.int k n)) = some (.val (.int .u32 (IntKind.u32.wrap n))) := cv_int un_94 un_105
theorem cvi_105_2 {k : IntKind} {n : Int} {es : Option (List PV)} : convP Tryd.prog 105 2 false es (some (.int k n)) = some (.val (.int .i64 (IntKind.i64.wrap n))) := cv_int un_105 un_2
theorem cvi_105_3 {k : IntKind} {n : Int} {es : Option (List PV)} : convP Tryd.prog 105 3 false es (some (.int k n)) = some (.val (.int .i64 (IntKind.i64.wrap n))) := cv_int un_105 un_3
theorem cvi_105_5 {k : IntKind} {n : Int} {es : Option (List PV)} : convP Tryd.prog 105 5 false es (some (.int k n)) = some (.val (.int .u8 (IntKind.u8.wrap n))) := cv_int un_105 un_5
theorem cvi_105_12 {k : IntKind} {n : Int} {es : Option (List PV)} : convP Tryd.prog 105 12 false es (some (.int k n)) = some (.val (.int .u64 (IntKind.u64.wrap n))) := cv_int un_105 un_12
theorem cvi_105_21 {k : IntKind} {n : Int} {es : Option (List PV)} : convP Tryd.prog 105 21 false es (some (.int k n)) = some (.val (.int .i32 (IntKind.i32.wrap n))) := cv_int un_105 un_21
theorem cvi_105_94 {k : IntKind} {n : Int} {es : Option (List PV)} : convP Tryd.prog 105 94 false es (some (.int k n)) = some (.val (.int .u64 (IntKind.u64.wrap n))) := cv_int un_105 un_94
theorem cvi_105_105 {k : IntKind} {n : Int} {es : Option (List PV)} : convP Tryd.prog 105 105 false es (some (.int k n)) = some (.val (.int .u32 (IntKind.u32.wrap n))) := cv_int un_105 un_105
theorem rw_22_1 {a0 : PV} : rowEs Tryd.prog 22 1 [(0, a0)] = rowC 5 1 [a0] (okP 1 a0 && (true)) := rw_of el_22 sz_5 ze_5 _ (by decide) (by decide) rfl
theorem rw_23_0 : rowEs Tryd.prog 23 0 [] = rowC 9 1 [] (true) := rw_of el_23 sz_9 ze_9 _ (by decide) (by decide) rfl
theorem rw_23_1 {a0 : PV} : rowEs Tryd.prog 23 1 [(0, a0)] = rowC 9 1 [a0] (okP 1 a0 && (true)) := rw_of el_23 sz_9 ze_9 _ (by decide) (by decide) rfl
theorem rw_23_3 {a0 a1 a2 : PV} : rowEs Tryd.prog 23 3 [(0, a0), (1, a1), (2, a2)] = rowC 9 1 [a0, a1, a2] (okP 1 a0 && (okP 1 a1 && (okP 1 a2 && (true)))) := rw_of el_23 sz_9 ze_9 _ (by decide) (by decide) rfl
theorem rw_23_5 {a0 a1 a2 a3 a4 : PV} : rowEs Tryd.prog 23 5 [(0, a0), (1, a1), (2, a2), (3, a3), (4, a4)] = rowC 9 1 [a0, a1, a2, a3, a4] (okP 1 a0 && (okP 1 a1 && (okP 1 a2 && (okP 1 a3 && (okP 1 a4 && (true)))))) := rw_of el_23 sz_9 ze_9 _ (by decide) (by decide) rfl
theorem rw_23_6 {a0 a1 a2 a3 a4 a5 : PV} : rowEs Tryd.prog 23 6 [(0, a0), (1, a1), (2, a2), (3, a3), (4, a4), (5, a5)] = rowC 9 1 [a0, a1, a2, a3, a4, a5] (okP 1 a0 && (okP 1 a1 && (okP 1 a2 && (okP 1 a3 && (okP 1 a4 && (okP 1 a5 && (true))))))) := rw_of el_23 sz_9 ze_9 _ (by decide) (by decide) rfl
theorem rw_23_8 {a0 a1 a2 a3 a4 a5 a6 a7 : PV} : rowEs Tryd.prog 23 8 [(0, a0), (1, a1), (2, a2), (3, a3), (4, a4), (5, a5), (6, a6), (7, a7)] = rowC 9 1 [a0, a1, a2, a3, a4, a5, a6, a7] (okP 1 a0 && (okP 1 a1 && (okP 1 a2 && (okP 1 a3 && (okP 1 a4 && (okP 1 a5 && (okP 1 a6 && (okP 1 a7 && (true))))))))) := rw_of el_23 sz_9 ze_9 _ (by decide) (by decide) rfl
theorem rw_23_12 {a0 a1 a2 a3 a4 a5 a6 a7 a8 a9 a10 a11 : PV} : rowEs Tryd.prog 23 12 [(0, a0), (1, a1), (2, a2), (3, a3), (4, a4), (5, a5), (6, a6), (7, a7), (8, a8), (9, a9), (10, a10), (11, a11)] = rowC 9 1 [a0, a1, a2, a3, a4, a5, a6, a7, a8, a9, a10, a11] (okP 1 a0 && (okP 1 a1 && (okP 1 a2 && (okP 1 a3 && (okP 1 a4 && (okP 1 a5 && (okP 1 a6 && (okP 1 a7 && (okP 1 a8 && (okP 1 a9 && (okP 1 a10 && (okP 1 a11 && (true))))))))))))) := rw_of el_23 sz_9 ze_9 _ (by decide) (by decide) rfl
theorem rw_23_15 {a0 a1 a2 a3 a4 a5 a6 a7 a8 a9 a10 a11 a12 a13 a14 : PV} : rowEs Tryd.prog 23 15 [(0, a0), (1, a1), (2, a2), (3, a3), (4, a4), (5, a5), (6, a6), (7, a7), (8, a8), (9, a9), (10, a10), (11, a11), (12, a12), (13, a13), (14, a14)] = rowC 9 1 [a0, a1, a2, a3, a4, a5, a6, a7, a8, a9, a10, a11, a12, a13, a14] (okP 1 a0 && (okP 1 a1 && (okP 1 a2 && (okP 1 a3 && (okP 1 a4 && (okP 1 a5 && (okP 1 a6 && (okP 1 a7 && (okP 1 a8 && (okP 1 a9 && (okP 1 a10 && (okP 1 a11 && (okP 1 a12 && (okP 1 a13 && (okP 1 a14 && (true)))))))))))))))) := rw_of el_23 sz_9 ze_9 _ (by decide) (by decide) rfl
theorem rw_56_0 : rowEs Tryd.prog 56 0 [] = rowC 64 7 [] (true) := rw_of el_56 sz_64 ze_64 _ (by decide) (by decide) rfl
theorem rw_56_1 {a0 : PV} : rowEs Tryd.prog 56 1 [(0, a0)] = rowC 64 7 [a0] (okP 7 a0 && (true)) := rw_of el_56 sz_64 ze_64 _ (by decide) (by decide) rfl
theorem rw_56_3 {a0 a1 a2 : PV} : rowEs Tryd.prog 56 3 [(0, a0), (1, a1), (2, a2)] = rowC 64 7 [a0, a1, a2] (okP 7 a0 && (okP 7 a1 && (okP 7 a2 && (true)))) := rw_of el_56 sz_64 ze_64 _ (by decide) (by decide) rfl
theorem rw_59_0 : rowEs Tryd.prog 59 0 [] = rowC 3 1 [] (true) := rw_of el_59 sz_3 ze_3 _ (by decide) (by decide) rfl
theorem rw_59_1 {a0 : PV} : rowEs Tryd.prog 59 1 [(0, a0)] = rowC 3 1 [a0] (okP 1 a0 && (true)) := rw_of el_59 sz_3 ze_3 _ (by decide) (by decide) rfl
theorem mixed : Tryd.prog.follows .mixedOrders = true := by kernel_rfl
attribute [push_cast high]
  bz_7 bz_13 bz_44 bz_45 bz_51 bz_52 bz_63 bz_64 bz_102 bz_103
attribute [push_cast]
  sz_2 ag_2 by_2 ze_2 un_2 oz_2 ea_2 bs_2 is_2 sz_3 ag_3 by_3 ze_3 un_3 oz_3 ea_3 bs_3 is_3 sz_4 ag_4 by_4 ze_4 un_4 bqe_4 bqn_4 oz_4 ea_4 bs_4 is_4 sz_5 ag_5 by_5 ze_5 un_5 oz_5 ea_5 bs_5 is_5 sz_7 ag_7 by_7 ze_7 fo_7_0 fo_7_1 fo_7_2 fo_7_3 pl_7 bl_7 oz_7 ea_7 bs_7 is_7 sz_9 ag_9 by_9 ze_9 un_9 lps_9 ixs_9 oz_9 ea_9 bs_9 is_9 sz_12 ag_12 by_12 ze_12 un_12 oz_12 ea_12 bs_12 is_12 sz_13 ag_13 by_13 ze_13 fo_13_0 fo_13_1 pl_13 bl_13 oz_13 ea_13 bs_13 is_13 sz_21 ag_21 by_21 ze_21 un_21 oz_21 ea_21 bs_21 is_21 sz_44 ag_44 by_44 ze_44 fo_44_0 fo_44_1 fo_44_2 fo_44_3 pl_44 bl_44 oz_44 ea_44 bs_44 is_44 sz_45 ag_45 by_45 ze_45 fo_45_0 fo_45_1 fo_45_2 fo_45_3 pl_45 bl_45 oz_45 ea_45 sqeql_45 sqneq_45 bs_45 is_45 sz_51 ag_51 by_51 ze_51 fo_51_0 fo_51_1 pl_51 bl_51 oz_51 ea_51 bs_51 is_51 sz_52 ag_52 by_52 ze_52 fo_52_0 fo_52_1 pl_52 bl_52 oz_52 ea_52 bs_52 is_52 sz_63 ag_63 by_63 ze_63 fo_63_0 fo_63_1 fo_63_2 fo_63_3 pl_63 bl_63 oz_63 ea_63 bs_63 is_63 sz_64 ag_64 by_64 ze_64 fo_64_0 fo_64_1 fo_64_2 fo_64_3 pl_64 bl_64 oz_64 ea_64 bs_64 is_64 sz_76 ag_76 by_76 ze_76 un_76 ixa_76 ixp_76 bl_76 oz_76 ea_76 bs_76 is_76 sz_83 ag_83 by_83 ze_83 un_83 ixa_83 ixp_83 bl_83 oz_83 ea_83 bs_83 is_83 sz_94 ag_94 by_94 ze_94 un_94 oz_94 ea_94 bs_94 is_94 sz_102 ag_102 by_102 ze_102 fo_102_0 fo_102_1 pl_102 bl_102 oz_102 ea_102 bs_102 is_102 sz_103 ag_103 by_103 ze_103 fo_103_0 fo_103_1 pl_103 bl_103 oz_103 ea_103 bs_103 is_103 sz_104 ag_104 by_104 ze_104 un_104 oz_104 ea_104 bs_104 is_104 sz_105 ag_105 by_105 ze_105 un_105 oz_105 ea_105 bs_105 is_105 sz_22 ag_22 by_22 ze_22 un_22 el_22 ix_22 ixr_22 sl_22 slr_22 sle_22 lpl_22 lpr_22 lpn_22 oz_22 ea_22 em_22 eap_22 ecp_22 bs_22 is_22 sz_23 ag_23 by_23 ze_23 un_23 el_23 ix_23 ixr_23 sl_23 slr_23 sle_23 lpl_23 lpr_23 lpn_23 oz_23 ea_23 em_23 eap_23 ecp_23 bs_23 is_23 sz_56 ag_56 by_56 ze_56 un_56 el_56 ix_56 ixr_56 sl_56 slr_56 sle_56 lpl_56 lpr_56 lpn_56 oz_56 ea_56 em_56 eap_56 ecp_56 bs_56 is_56 sz_59 ag_59 by_59 ze_59 un_59 el_59 ix_59 ixr_59 sl_59 slr_59 sle_59 lpl_59 lpr_59 lpn_59 oz_59 ea_59 em_59 eap_59 ecp_59 bs_59 is_59 sz_74 ag_74 by_74 ze_74 un_74 el_74 ix_74 ixr_74 sl_74 slr_74 sle_74 lpl_74 lpr_74 lpn_74 oz_74 ea_74 em_74 eap_74 ecp_74 bs_74 is_74 sz_75 ag_75 by_75 ze_75 un_75 el_75 ix_75 ixr_75 sl_75 slr_75 sle_75 lpl_75 lpr_75 lpn_75 oz_75 ea_75 em_75 eap_75 ecp_75 bs_75 is_75 cvi_2_2 cvi_2_3 cvi_2_5 cvi_2_12 cvi_2_21 cvi_2_94 cvi_2_105 cvi_3_2 cvi_3_3 cvi_3_5 cvi_3_12 cvi_3_21 cvi_3_94 cvi_3_105 cvi_5_2 cvi_5_3 cvi_5_5 cvi_5_12 cvi_5_21 cvi_5_94 cvi_5_105 cvi_12_2 cvi_12_3 cvi_12_5 cvi_12_12 cvi_12_21 cvi_12_94 cvi_12_105 cvi_21_2 cvi_21_3 cvi_21_5 cvi_21_12 cvi_21_21 cvi_21_94 cvi_21_105 cvi_94_2 cvi_94_3 cvi_94_5 cvi_94_12 cvi_94_21 cvi_94_94 cvi_94_105 cvi_105_2 cvi_105_3 cvi_105_5 cvi_105_12 cvi_105_21 cvi_105_94 cvi_105_105 rw_22_1 rw_23_0 rw_23_1 rw_23_3 rw_23_5 rw_23_6 rw_23_8 rw_23_12 rw_23_15 rw_56_0 rw_56_1 rw_56_3 rw_59_0 rw_59_1
end Go.Proofs.YtngcedklbinhjaaDoor
namespace Go.Proofs
open Go.Shelf
def YtngcedklbinhjaaDoor.lays169_ren : Go.Shelf.Ren := ⟨fun | 169 => 14 | n => n, fun | 70 => 32 | 9 => 9 | 0 => 0 | 72 => 34 | 37 => 22 | 127 => 54 | 3 => 3 | 5 => 5 | n => n, fun | n => n⟩
theorem YtngcedklbinhjaaDoor.lays169 : Go.Proofs.Lays.n169 Tryd.prog YtngcedklbinhjaaDoor.lays169_ren := {
  mixed := by kernel_rfl
  f169 := Tryd.func14.trans (congrArg some (by kernel_rfl))
  t0 := Tryd.underlying0
  a0 := Tryd.isAgg0
  z0 := Tryd.sizeOf0
  v0 := Tryd.zeroValue0
  t3 := Tryd.underlying3
  a3 := Tryd.isAgg3
  z3 := Tryd.sizeOf3
  v3 := Tryd.zeroValue3
  t9 := Tryd.underlying9
  a9 := Tryd.isAgg9
  z9 := Tryd.sizeOf9
  v9 := Tryd.zeroValue9
  t37 := Tryd.underlying22
  a37 := Tryd.isAgg22
  z37 := Tryd.sizeOf22
  v37 := Tryd.zeroValue22
  t70 := Tryd.underlying32
  a70 := Tryd.isAgg32
  z70 := Tryd.sizeOf32
  v70 := Tryd.zeroValue32
  t72 := Tryd.underlying34
  a72 := Tryd.isAgg34
  z72 := Tryd.sizeOf34
  v72 := Tryd.zeroValue34
  t127 := Tryd.underlying54
  a127 := Tryd.isAgg54
  z127 := Tryd.sizeOf54
  v127 := Tryd.zeroValue54 }
theorem YtngcedklbinhjaaDoor.Builder_Extra_169 : Builder.Extra Tryd.prog YtngcedklbinhjaaDoor.lays169_ren := {
  sizeBuilder := by kernel_rfl
  liesBuilder := by kernel_rfl
  t5 := Tryd.underlying5
  a5 := Tryd.isAgg5
  z5 := Tryd.sizeOf5
  v5 := Tryd.zeroValue5
  infoByte := by kernel_rfl
  cellsByte := by kernel_rfl
  sizeByte := by kernel_rfl
  neB5 := by decide }
open Go.RowKit in
theorem YtngcedklbinhjaaDoor.Builder_String_any (B b : Nat) (l : List UInt8) (w : World) (h : Lib.IsBuilder 34 5 B b (Lib.byteCells l) w) (hBw : B ≤ w.heap.size) :
    Calls Tryd.prog 14 #[.pointer (some ⟨b, 0, none⟩)] w fun e w' => e = .returned (.string ⟨l.toArray⟩) ∧ Below B w w' := Any.Builder_String_any YtngcedklbinhjaaDoor.lays169 YtngcedklbinhjaaDoor.Builder_Extra_169 B b l w h hBw
def YtngcedklbinhjaaDoor.lays104_ren : Go.Shelf.Ren := ⟨fun | 104 => 11 | 211 => 21 | 207 => 30 | n => n, fun | 9 => 9 | 4 => 4 | 24 => 35 | 3 => 3 | n => n, fun | n => n⟩
theorem YtngcedklbinhjaaDoor.lays104 : Go.Proofs.Lays.n104 Tryd.prog YtngcedklbinhjaaDoor.lays104_ren := {
  mixed := by kernel_rfl
  f104 := Tryd.func11.trans (congrArg some (by kernel_rfl))
  f207 := Tryd.func30.trans (congrArg some (by kernel_rfl))
  f211 := Tryd.func21.trans (congrArg some (by kernel_rfl))
  t3 := Tryd.underlying3
  a3 := Tryd.isAgg3
  z3 := Tryd.sizeOf3
  v3 := Tryd.zeroValue3
  t4 := Tryd.underlying4
  a4 := Tryd.isAgg4
  z4 := Tryd.sizeOf4
  v4 := Tryd.zeroValue4
  t9 := Tryd.underlying9
  a9 := Tryd.isAgg9
  z9 := Tryd.sizeOf9
  v9 := Tryd.zeroValue9
  t24 := Tryd.underlying35
  a24 := Tryd.isAgg35
  z24 := Tryd.sizeOf35
  v24 := Tryd.zeroValue35 }
open Go.RowKit in
theorem YtngcedklbinhjaaDoor.strings_CutSuffix (s p : ByteArray) (w : World) (hs : s.size ≤ 9223372036854775807) :
    Calls Tryd.prog 11 #[.string s, .string p] w fun e w' => e = .returned (.tuple #[.string ⟨(Lib.trimSuffix s.data.toList p.data.toList).toArray⟩, .bool (Lib.hasSuffix s.data.toList p.data.toList)]) ∧ w' = w := Any.strings_CutSuffix YtngcedklbinhjaaDoor.lays104 s p w hs
def YtngcedklbinhjaaDoor.lays143_ren : Go.Shelf.Ren := ⟨fun | 143 => 34 | 219 => 51 | 217 => 61 | 225 => 62 | 224 => 63 | 267 => 64 | 266 => 72 | 314 => 73 | n => n, fun | 9 => 9 | 3 => 3 | 4 => 4 | 5 => 5 | 46 => 94 | 146 => 106 | 51 => 105 | n => n, fun | 1 => 0 | n => n⟩
theorem YtngcedklbinhjaaDoor.lays143 : Go.Proofs.Lays.n143 Tryd.prog YtngcedklbinhjaaDoor.lays143_ren := {
  mixed := by kernel_rfl
  f143 := Tryd.func34.trans (congrArg some (by kernel_rfl))
  f217 := Tryd.func61.trans (congrArg some (by kernel_rfl))
  f219 := Tryd.func51.trans (congrArg some (by kernel_rfl))
  f224 := Tryd.func63.trans (congrArg some (by kernel_rfl))
  f225 := Tryd.func62.trans (congrArg some (by kernel_rfl))
  f266 := Tryd.func72.trans (congrArg some (by kernel_rfl))
  f267 := Tryd.func64.trans (congrArg some (by kernel_rfl))
  f314 := Tryd.func73.trans (congrArg some (by kernel_rfl))
  t3 := Tryd.underlying3
  a3 := Tryd.isAgg3
  z3 := Tryd.sizeOf3
  v3 := Tryd.zeroValue3
  t4 := Tryd.underlying4
  a4 := Tryd.isAgg4
  z4 := Tryd.sizeOf4
  v4 := Tryd.zeroValue4
  t5 := Tryd.underlying5
  a5 := Tryd.isAgg5
  z5 := Tryd.sizeOf5
  v5 := Tryd.zeroValue5
  t9 := Tryd.underlying9
  a9 := Tryd.isAgg9
  z9 := Tryd.sizeOf9
  v9 := Tryd.zeroValue9
  t46 := Tryd.underlying94
  a46 := Tryd.isAgg94
  z46 := Tryd.sizeOf94
  v46 := Tryd.zeroValue94
  t51 := Tryd.underlying105
  a51 := Tryd.isAgg105
  z51 := Tryd.sizeOf105
  v51 := Tryd.zeroValue105
  t146 := Tryd.underlying106
  a146 := Tryd.isAgg106
  z146 := Tryd.sizeOf106
  v146 := Tryd.zeroValue106
  g1 := by kernel_rfl }
open Go.RowKit Go.Lib in
theorem YtngcedklbinhjaaDoor.strings_Index_one (s : ByteArray) (c : UInt8) (w : World) :
    Calls Tryd.prog 34 #[.string s, .string ⟨#[c]⟩] w fun e w' => e = .returned (.int .i64 (Lib.indexByte s.data.toList c)) ∧ w' = w := Any.strings_Index_one YtngcedklbinhjaaDoor.lays143 s c w
def YtngcedklbinhjaaDoor.lays138_ren : Go.Shelf.Ren := ⟨fun | 138 => 33 | 195 => 48 | 218 => 50 | 143 => 34 | 219 => 51 | 217 => 61 | 225 => 62 | 224 => 63 | 267 => 64 | 266 => 72 | 314 => 73 | n => n, fun | 9 => 9 | 3 => 3 | 4 => 4 | 5 => 5 | 0 => 0 | 46 => 94 | 146 => 106 | 51 => 105 | n => n, fun | 1 => 0 | n => n⟩
theorem YtngcedklbinhjaaDoor.lays138 : Go.Proofs.Lays.n138 Tryd.prog YtngcedklbinhjaaDoor.lays138_ren := {
  mixed := by kernel_rfl
  f138 := Tryd.func33.trans (congrArg some (by kernel_rfl))
  f143 := Tryd.func34.trans (congrArg some (by kernel_rfl))
  f195 := Tryd.func48.trans (congrArg some (by kernel_rfl))
  f217 := Tryd.func61.trans (congrArg some (by kernel_rfl))
  f218 := Tryd.func50.trans (congrArg some (by kernel_rfl))
  f219 := Tryd.func51.trans (congrArg some (by kernel_rfl))
  f224 := Tryd.func63.trans (congrArg some (by kernel_rfl))
  f225 := Tryd.func62.trans (congrArg some (by kernel_rfl))
  f266 := Tryd.func72.trans (congrArg some (by kernel_rfl))
  f267 := Tryd.func64.trans (congrArg some (by kernel_rfl))
  f314 := Tryd.func73.trans (congrArg some (by kernel_rfl))
  t0 := Tryd.underlying0
  a0 := Tryd.isAgg0
  z0 := Tryd.sizeOf0
  v0 := Tryd.zeroValue0
  t3 := Tryd.underlying3
  a3 := Tryd.isAgg3
  z3 := Tryd.sizeOf3
  v3 := Tryd.zeroValue3
  t4 := Tryd.underlying4
  a4 := Tryd.isAgg4
  z4 := Tryd.sizeOf4
  v4 := Tryd.zeroValue4
  t5 := Tryd.underlying5
  a5 := Tryd.isAgg5
  z5 := Tryd.sizeOf5
  v5 := Tryd.zeroValue5
  t9 := Tryd.underlying9
  a9 := Tryd.isAgg9
  z9 := Tryd.sizeOf9
  v9 := Tryd.zeroValue9
  t46 := Tryd.underlying94
  a46 := Tryd.isAgg94
  z46 := Tryd.sizeOf94
  v46 := Tryd.zeroValue94
  t51 := Tryd.underlying105
  a51 := Tryd.isAgg105
  z51 := Tryd.sizeOf105
  v51 := Tryd.zeroValue105
  t146 := Tryd.underlying106
  a146 := Tryd.isAgg106
  z146 := Tryd.sizeOf106
  v146 := Tryd.zeroValue106
  g1 := by kernel_rfl }
open Go.RowKit Go.Lib in
theorem YtngcedklbinhjaaDoor.strings_Count_one (s : ByteArray) (c : UInt8) (w : World) :
    Calls Tryd.prog 33 #[.string s, .string ⟨#[c]⟩] w fun e w' => e = .returned (.int .i64 (Lib.countByte s.data.toList c)) ∧ w' = w := Any.strings_Count_one YtngcedklbinhjaaDoor.lays138 s c w
def YtngcedklbinhjaaDoor.lays221_ren : Go.Shelf.Ren := ⟨fun | 221 => 23 | 268 => 32 | 138 => 33 | 143 => 34 | 195 => 48 | 197 => 49 | 218 => 50 | 219 => 51 | 260 => 60 | 217 => 61 | 225 => 62 | 224 => 63 | 267 => 64 | 266 => 72 | 314 => 73 | n => n, fun | 9 => 9 | 3 => 3 | 31 => 23 | 4 => 4 | 0 => 0 | 105 => 88 | 21 => 21 | 5 => 5 | 46 => 94 | 119 => 101 | 139 => 104 | 138 => 103 | 146 => 106 | 51 => 105 | n => n, fun | 1 => 0 | 3 => 1 | 4 => 2 | n => n⟩
theorem YtngcedklbinhjaaDoor.lays221 : Go.Proofs.Lays.n221 Tryd.prog YtngcedklbinhjaaDoor.lays221_ren := {
  mixed := by kernel_rfl
  f138 := Tryd.func33.trans (congrArg some (by kernel_rfl))
  f143 := Tryd.func34.trans (congrArg some (by kernel_rfl))
  f195 := Tryd.func48.trans (congrArg some (by kernel_rfl))
  f197 := Tryd.func49.trans (congrArg some (by kernel_rfl))
  f217 := Tryd.func61.trans (congrArg some (by kernel_rfl))
  f218 := Tryd.func50.trans (congrArg some (by kernel_rfl))
  f219 := Tryd.func51.trans (congrArg some (by kernel_rfl))
  f221 := Tryd.func23.trans (congrArg some (by kernel_rfl))
  f224 := Tryd.func63.trans (congrArg some (by kernel_rfl))
  f225 := Tryd.func62.trans (congrArg some (by kernel_rfl))
  f260 := Tryd.func60.trans (congrArg some (by kernel_rfl))
  f266 := Tryd.func72.trans (congrArg some (by kernel_rfl))
  f267 := Tryd.func64.trans (congrArg some (by kernel_rfl))
  f268 := Tryd.func32.trans (congrArg some (by kernel_rfl))
  f314 := Tryd.func73.trans (congrArg some (by kernel_rfl))
  t0 := Tryd.underlying0
  a0 := Tryd.isAgg0
  z0 := Tryd.sizeOf0
  v0 := Tryd.zeroValue0
  t3 := Tryd.underlying3
  a3 := Tryd.isAgg3
  z3 := Tryd.sizeOf3
  v3 := Tryd.zeroValue3
  t4 := Tryd.underlying4
  a4 := Tryd.isAgg4
  z4 := Tryd.sizeOf4
  v4 := Tryd.zeroValue4
  t5 := Tryd.underlying5
  a5 := Tryd.isAgg5
  z5 := Tryd.sizeOf5
  v5 := Tryd.zeroValue5
  t9 := Tryd.underlying9
  a9 := Tryd.isAgg9
  z9 := Tryd.sizeOf9
  v9 := Tryd.zeroValue9
  t21 := Tryd.underlying21
  a21 := Tryd.isAgg21
  z21 := Tryd.sizeOf21
  v21 := Tryd.zeroValue21
  t31 := Tryd.underlying23
  a31 := Tryd.isAgg23
  z31 := Tryd.sizeOf23
  v31 := Tryd.zeroValue23
  t46 := Tryd.underlying94
  a46 := Tryd.isAgg94
  z46 := Tryd.sizeOf94
  v46 := Tryd.zeroValue94
  t51 := Tryd.underlying105
  a51 := Tryd.isAgg105
  z51 := Tryd.sizeOf105
  v51 := Tryd.zeroValue105
  t105 := Tryd.underlying88
  a105 := Tryd.isAgg88
  z105 := Tryd.sizeOf88
  v105 := Tryd.zeroValue88
  t119 := Tryd.underlying101
  a119 := Tryd.isAgg101
  z119 := Tryd.sizeOf101
  t138 := Tryd.underlying103
  a138 := Tryd.isAgg103
  z138 := Tryd.sizeOf103
  v138 := Tryd.zeroValue103
  t139 := Tryd.underlying104
  a139 := Tryd.isAgg104
  z139 := Tryd.sizeOf104
  v139 := Tryd.zeroValue104
  t146 := Tryd.underlying106
  a146 := Tryd.isAgg106
  z146 := Tryd.sizeOf106
  v146 := Tryd.zeroValue106
  g1 := by kernel_rfl
  g3 := by kernel_rfl
  g4 := by kernel_rfl }
end Go.Proofs
namespace Go.Proofs.YtngcedklbinhjaaDoor
open Go.RowKit
set_option linter.all false
def PV.le (p q : PV) : Prop := ∀ (g : Gh) (w : World) (v : Value), Rep g w p v → Rep g w q v
theorem PV.le_refl (p : PV) : p.le p := fun _ _ _ h => h
theorem PV.le.trans {p q r : PV} (h : p.le q) (h2 : q.le r) : p.le r := fun g w v hv => h2 g w v (h g w v hv)
theorem nil_le (k : Bool) (sz : Nat) : (PV.val (.slice none 0 0)).le (.lst k sz []) := fun g w v h => by
  simp only [Rep] at h ⊢
  subst h
  exact ⟨none, 0, rfl, Nat.le_refl _, by omega, .inl trivial⟩
def leL : List PV → List PV → Prop
  | [], [] => True
  | p :: ps, q :: qs => p.le q ∧ leL ps qs
  | _, _ => False
theorem leL_rep {g : Gh} {w : World} : ∀ {ps qs : List PV} {vs : List Value}, leL ps qs → RepL g w ps vs → RepL g w qs vs
  | [], [], vs, _, h => h
  | p :: ps, q :: qs, vs, hl, h => by
    simp only [RepL] at h ⊢
    obtain ⟨v, vs', rfl, h1, h2⟩ := h
    exact ⟨v, vs', rfl, hl.1 _ _ _ h1, leL_rep hl.2 h2⟩
  | [], _ :: _, vs, hl, _ => hl.elim
  | _ :: _, [], vs, hl, _ => hl.elim
theorem Sound.weak {P : Program} {f : Nat} {φ φ' : Fun} (h : Sound P f φ) (hw : ∀ ps r, φ' ps = some r → ∃ ps' r', leL ps ps' ∧ φ ps' = some r' ∧ r'.le r) : Sound P f φ' := by
  intro w J ps args r hr hJ hT hargs
  obtain ⟨ps', r', h1, h2, h3⟩ := hw ps r hr
  refine (h w J ps' args r' h2 hJ hT (leL_rep h1 hargs)).mono ?_
  rintro e w' ⟨v, rfl, hb, hrep⟩
  exact ⟨v, rfl, hb, fun g' hg => h3 _ _ _ (hrep g' hg)⟩
def nrm (sz : Nat) : PV → PV
  | .val (.slice none 0 0) => .lst false sz []
  | p => p
theorem le_nrm (sz : Nat) (p : PV) : p.le (nrm sz p) := by
  unfold nrm
  split
  · exact nil_le _ _
  · exact p.le_refl
theorem leL_nrm (sz : Nat) : ∀ ps : List PV, leL ps (ps.map (nrm sz))
  | [] => trivial
  | p :: ps => ⟨le_nrm sz p, leL_nrm sz ps⟩
def nilF (sz : Nat) (φ : Fun) : Fun := fun ps => φ (ps.map (nrm sz))
theorem Sound.nil {P : Program} {f : Nat} {φ : Fun} (h : Sound P f φ) (sz : Nat) : Sound P f (nilF sz φ) :=
  h.weak fun ps r hr => ⟨_, r, leL_nrm sz ps, hr, PV.le_refl _⟩
section
variable {P : Program} {Γ : Ctx}
end
theorem reify_nil0 {n f sz : Nat} {ob : Objs} {k : Bool} : reify false n ob (f + 1) (.lst k sz []) = some (.lst false sz []) := by simp [reify]
theorem reify_nil1 {n f sz : Nat} {ob : Objs} {k : Bool} : reify true n ob (f + 1) (.lst k sz []) = some (.lst true sz []) := by simp [reify]
attribute [push_cast]
  reify_nil0 reify_nil1
def nP (sz : Nat) (es : List PV) (x : Nat) : PV := match es with | [] => .val (.slice none 0 0) | _ :: _ => .row x sz 0 es.length
theorem nP_nil {sz x : Nat} : nP sz [] x = .val (.slice none 0 0) := rfl
theorem nP_pos {sz x : Nat} {es : List PV} (h : 0 < es.length) : nP sz es x = .row x sz 0 es.length := by
  cases es with
  | nil => simp at h
  | cons e es => rfl
attribute [push_cast]
  nP_nil
attribute [push_cast low]
  nP_pos
theorem bp_addS {P : Program} {t : Nat} {x y : Operand} {a b : ByteArray} (h : a.size + b.size ≤ 9223372036854775807) : binP P .add t x y (some (.string a)) (some (.string b)) = some (.val (.string (a ++ b))) := by
  have h2 : ¬ (((a.size + b.size : Nat) : Int) > IntKind.i64.max) := by
    have : IntKind.i64.max = 9223372036854775807 := by decide
    rw [this]
    omega
  have : pureRun P (do eqGuard .add t x y (.string a) (.string b); binOp .add t (.string a) (.string b)) = some (.string (a ++ b)) := by
    show pureRun P (Op.stringOp .add a b) = _
    unfold Op.stringOp
    dsimp only
    rw [if_neg h2]
    rfl
  simp only [binP, this, Option.map_some]
theorem size_push (ns : List Int) (r : ByteArray) : (ns.foldl (fun r n => r.push (UInt8.ofNat n.toNat)) r).size = r.size + ns.length := by
  induction ns generalizing r with
  | nil => simp
  | cons n ns ih => rw [List.foldl_cons, ih, List.length_cons, ByteArray.size_push]; omega
theorem size_bytesOf (ns : List Int) : (bytesOf ns).size = ns.length := by
  unfold bytesOf
  rw [size_push]
  simp
attribute [push_cast]
  bp_addS size_bytesOf ByteArray.size_append byteNs
theorem str_cells {g : Gh} {w : World} {b off : Nat} {l : List ByteArray} (h : RepEs g w 1 (l.map fun s => PV.val (.string s)) b off) : ∀ (j : Nat) x, l[j]? = some x → w.cell? ⟨b, off + j, none⟩ = some (.string x) := fun j x hx => by
  obtain ⟨u, h1, h2, _⟩ := h.get (i := j) (e := .val (.string x)) (by simp [hx])
  simp only [Rep] at h1
  subst h1
  have := h2.2 0 (by simp [Value.cells])
  simpa [Value.cells] using this
def sumS (l : List ByteArray) : Nat := (l.map (·.size)).sum
theorem sumS_le {l : List ByteArray} {c : Nat} (h : ∀ i : Nat, (l[i]?.getD .empty).size ≤ c) : sumS l ≤ l.length * c := by
  induction l with
  | nil => simp [sumS]
  | cons x l ih =>
    have h0 := h 0
    have := ih fun i => by simpa using h (i + 1)
    simp only [List.getElem?_cons_zero, Option.getD_some] at h0
    simp only [sumS, List.map_cons, List.sum_cons, List.length_cons, Nat.add_mul, Nat.one_mul] at this ⊢
    omega
end Go.Proofs.YtngcedklbinhjaaDoor
