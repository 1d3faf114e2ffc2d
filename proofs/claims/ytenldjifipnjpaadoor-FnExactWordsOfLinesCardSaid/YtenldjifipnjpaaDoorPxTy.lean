/- Facts on the types of this seat, each reckoned by the kernel. -/
import Derived.Test.YtenldjifipnjpaaDoorProg
import Derived.Test.YtenldjifipnjpaaDoorPxW
namespace Go.Proofs.YtenldjifipnjpaaDoor
open Go.RowKit
set_option linter.all false
theorem sz_2 : tySize Tryd.prog 2 = some 1 := by kernel_rfl
theorem ag_2 : tyAgg Tryd.prog 2 = some false := by kernel_rfl
theorem by_2 : tyBytes Tryd.prog 2 = some 8 := by kernel_rfl
theorem ze_2 : zeroOf Tryd.prog 2 = some (.int .i64 0) := by kernel_rfl
theorem un_2 : Tryd.prog.underlying 2 = some (.int .i64) := by kernel_rfl
theorem oz_2 : ofVal (.int .i64 0) = .val (.int .i64 0) := rfl
theorem ea_2 {Γ : Ctx} (s : AS) (ρ : Operand → PV) : evEff Tryd.prog Γ s ρ (.alloc 2) = some (.own s.nx 1 0 0, upd s.ob s.nx (some (2, 1, [.val (.int .i64 0)])), s.nx + 1) := ea_of ze_2 (by kernel_rfl) rfl rfl s ρ
theorem bs_2 : isByteSlice Tryd.prog 2 = false := by kernel_rfl
theorem is_2 : isStr Tryd.prog 2 = false := by kernel_rfl
theorem sz_3 : tySize Tryd.prog 3 = some 1 := by kernel_rfl
theorem ag_3 : tyAgg Tryd.prog 3 = some false := by kernel_rfl
theorem by_3 : tyBytes Tryd.prog 3 = some 8 := by kernel_rfl
theorem ze_3 : zeroOf Tryd.prog 3 = some (.int .i64 0) := by kernel_rfl
theorem un_3 : Tryd.prog.underlying 3 = some (.int .i64) := by kernel_rfl
theorem oz_3 : ofVal (.int .i64 0) = .val (.int .i64 0) := rfl
theorem ea_3 {Γ : Ctx} (s : AS) (ρ : Operand → PV) : evEff Tryd.prog Γ s ρ (.alloc 3) = some (.own s.nx 1 0 0, upd s.ob s.nx (some (3, 1, [.val (.int .i64 0)])), s.nx + 1) := ea_of ze_3 (by kernel_rfl) rfl rfl s ρ
theorem bs_3 : isByteSlice Tryd.prog 3 = false := by kernel_rfl
theorem is_3 : isStr Tryd.prog 3 = false := by kernel_rfl
theorem sz_4 : tySize Tryd.prog 4 = some 1 := by kernel_rfl
theorem ag_4 : tyAgg Tryd.prog 4 = some false := by kernel_rfl
theorem by_4 : tyBytes Tryd.prog 4 = some 1 := by kernel_rfl
theorem ze_4 : zeroOf Tryd.prog 4 = some (.bool false) := by kernel_rfl
theorem un_4 : Tryd.prog.underlying 4 = some .bool := by kernel_rfl
theorem bqe_4 {x y : Operand} {a b : Bool} : binP Tryd.prog .eql 4 x y (some (.bool a)) (some (.bool b)) = some (.val (.bool (a == b))) := bp_eqlB un_4
theorem bqn_4 {x y : Operand} {a b : Bool} : binP Tryd.prog .neq 4 x y (some (.bool a)) (some (.bool b)) = some (.val (.bool (!(a == b)))) := bp_neqB un_4
theorem oz_4 : ofVal (.bool false) = .val (.bool false) := rfl
theorem ea_4 {Γ : Ctx} (s : AS) (ρ : Operand → PV) : evEff Tryd.prog Γ s ρ (.alloc 4) = some (.own s.nx 1 0 0, upd s.ob s.nx (some (4, 1, [.val (.bool false)])), s.nx + 1) := ea_of ze_4 (by kernel_rfl) rfl rfl s ρ
theorem bs_4 : isByteSlice Tryd.prog 4 = false := by kernel_rfl
theorem is_4 : isStr Tryd.prog 4 = false := by kernel_rfl
theorem sz_5 : tySize Tryd.prog 5 = some 1 := by kernel_rfl
theorem ag_5 : tyAgg Tryd.prog 5 = some false := by kernel_rfl
theorem by_5 : tyBytes Tryd.prog 5 = some 1 := by kernel_rfl
theorem ze_5 : zeroOf Tryd.prog 5 = some (.int .u8 0) := by kernel_rfl
theorem un_5 : Tryd.prog.underlying 5 = some (.int .u8) := by kernel_rfl
theorem oz_5 : ofVal (.int .u8 0) = .val (.int .u8 0) := rfl
theorem ea_5 {Γ : Ctx} (s : AS) (ρ : Operand → PV) : evEff Tryd.prog Γ s ρ (.alloc 5) = some (.own s.nx 1 0 0, upd s.ob s.nx (some (5, 1, [.val (.int .u8 0)])), s.nx + 1) := ea_of ze_5 (by kernel_rfl) rfl rfl s ρ
theorem bs_5 : isByteSlice Tryd.prog 5 = false := by kernel_rfl
theorem is_5 : isStr Tryd.prog 5 = false := by kernel_rfl
theorem sz_7 : tySize Tryd.prog 7 = some 4 := by kernel_rfl
theorem ag_7 : tyAgg Tryd.prog 7 = some true := by kernel_rfl
theorem by_7 : tyBytes Tryd.prog 7 = some 24 := by kernel_rfl
theorem ze_7 : zeroOf Tryd.prog 7 = some (.agg #[.int .i64 0, .int .i64 0, .bool false, .int .u8 0]) := by kernel_rfl
theorem fo_7_0 : fieldOff Tryd.prog 7 0 = some 0 := by kernel_rfl
theorem fo_7_1 : fieldOff Tryd.prog 7 1 = some 1 := by kernel_rfl
theorem fo_7_2 : fieldOff Tryd.prog 7 2 = some 2 := by kernel_rfl
theorem fo_7_3 : fieldOff Tryd.prog 7 3 = some 3 := by kernel_rfl
theorem pl_7 : structPlaces Tryd.prog 7 = some #[(0, 1), (1, 1), (2, 1), (3, 1)] := by kernel_rfl
theorem bl_7 (ps : List (Nat × PV)) : evBuild Tryd.prog 7 ps = (fillP (plF [(0, 1), (1, 1), (2, 1), (3, 1)]) [.val (.int .i64 0), .val (.int .i64 0), .val (.bool false), .val (.int .u8 0)] ps).map .agg := bl_of ze_7 rfl pl_7 ps
theorem oz_7 : ofVal (.agg #[.int .i64 0, .int .i64 0, .bool false, .int .u8 0]) = .agg [.val (.int .i64 0), .val (.int .i64 0), .val (.bool false), .val (.int .u8 0)] := rfl
theorem ea_7 {Γ : Ctx} (s : AS) (ρ : Operand → PV) : evEff Tryd.prog Γ s ρ (.alloc 7) = some (.own s.nx 4 0 0, upd s.ob s.nx (some (7, 4, [.agg [.val (.int .i64 0), .val (.int .i64 0), .val (.bool false), .val (.int .u8 0)]])), s.nx + 1) := ea_of ze_7 (by kernel_rfl) rfl rfl s ρ
theorem bz_7 {Γ : Ctx} {ob : Objs} {ρ : Operand → PV} {ty : Nat} : evVal Tryd.prog Γ ob ρ ty (.build 7 #[]) = some (.agg [.val (.int .i64 0), .val (.int .i64 0), .val (.bool false), .val (.int .u8 0)]) := (show evBuild Tryd.prog 7 [] = some (.agg [.val (.int .i64 0), .val (.int .i64 0), .val (.bool false), .val (.int .u8 0)]) from by kernel_rfl)
theorem bs_7 : isByteSlice Tryd.prog 7 = false := by kernel_rfl
theorem is_7 : isStr Tryd.prog 7 = false := by kernel_rfl
theorem sz_9 : tySize Tryd.prog 9 = some 1 := by kernel_rfl
theorem ag_9 : tyAgg Tryd.prog 9 = some false := by kernel_rfl
theorem by_9 : tyBytes Tryd.prog 9 = some 16 := by kernel_rfl
theorem ze_9 : zeroOf Tryd.prog 9 = some (.string ByteArray.empty) := by kernel_rfl
theorem un_9 : Tryd.prog.underlying 9 = some .string := by kernel_rfl
theorem lps_9 {ty : Nat} {s : ByteArray} : lenP Tryd.prog 9 ty (.val (.string s)) = some (.val (.int .i64 s.size)) := lp_str un_9
theorem ixs_9 {s : ByteArray} {i : Int} (h0 : 0 ≤ i) (h1 : i < s.size) : idxP Tryd.prog 9 (some (.string s)) (some (.int .i64 i)) = some (.val (.int .u8 (at8 s i.toNat))) := ix_str un_9 h0 h1
theorem oz_9 : ofVal (.string ByteArray.empty) = .val (.string ByteArray.empty) := rfl
theorem ea_9 {Γ : Ctx} (s : AS) (ρ : Operand → PV) : evEff Tryd.prog Γ s ρ (.alloc 9) = some (.own s.nx 1 0 0, upd s.ob s.nx (some (9, 1, [.val (.string ByteArray.empty)])), s.nx + 1) := ea_of ze_9 (by kernel_rfl) rfl rfl s ρ
theorem bs_9 : isByteSlice Tryd.prog 9 = false := by kernel_rfl
theorem is_9 : isStr Tryd.prog 9 = true := by kernel_rfl
theorem sz_12 : tySize Tryd.prog 12 = some 1 := by kernel_rfl
theorem ag_12 : tyAgg Tryd.prog 12 = some false := by kernel_rfl
theorem by_12 : tyBytes Tryd.prog 12 = some 8 := by kernel_rfl
theorem ze_12 : zeroOf Tryd.prog 12 = some (.int .u64 0) := by kernel_rfl
theorem un_12 : Tryd.prog.underlying 12 = some (.int .u64) := by kernel_rfl
theorem oz_12 : ofVal (.int .u64 0) = .val (.int .u64 0) := rfl
theorem ea_12 {Γ : Ctx} (s : AS) (ρ : Operand → PV) : evEff Tryd.prog Γ s ρ (.alloc 12) = some (.own s.nx 1 0 0, upd s.ob s.nx (some (12, 1, [.val (.int .u64 0)])), s.nx + 1) := ea_of ze_12 (by kernel_rfl) rfl rfl s ρ
theorem bs_12 : isByteSlice Tryd.prog 12 = false := by kernel_rfl
theorem is_12 : isStr Tryd.prog 12 = false := by kernel_rfl
theorem sz_13 : tySize Tryd.prog 13 = some 2 := by kernel_rfl
theorem ag_13 : tyAgg Tryd.prog 13 = some true := by kernel_rfl
theorem by_13 : tyBytes Tryd.prog 13 = some 24 := by kernel_rfl
theorem ze_13 : zeroOf Tryd.prog 13 = some (.agg #[.string ByteArray.empty, .int .u64 0]) := by kernel_rfl
theorem fo_13_0 : fieldOff Tryd.prog 13 0 = some 0 := by kernel_rfl
theorem fo_13_1 : fieldOff Tryd.prog 13 1 = some 1 := by kernel_rfl
theorem pl_13 : structPlaces Tryd.prog 13 = some #[(0, 1), (1, 1)] := by kernel_rfl
theorem bl_13 (ps : List (Nat × PV)) : evBuild Tryd.prog 13 ps = (fillP (plF [(0, 1), (1, 1)]) [.val (.string ByteArray.empty), .val (.int .u64 0)] ps).map .agg := bl_of ze_13 rfl pl_13 ps
theorem oz_13 : ofVal (.agg #[.string ByteArray.empty, .int .u64 0]) = .agg [.val (.string ByteArray.empty), .val (.int .u64 0)] := rfl
theorem ea_13 {Γ : Ctx} (s : AS) (ρ : Operand → PV) : evEff Tryd.prog Γ s ρ (.alloc 13) = some (.own s.nx 2 0 0, upd s.ob s.nx (some (13, 2, [.agg [.val (.string ByteArray.empty), .val (.int .u64 0)]])), s.nx + 1) := ea_of ze_13 (by kernel_rfl) rfl rfl s ρ
theorem bz_13 {Γ : Ctx} {ob : Objs} {ρ : Operand → PV} {ty : Nat} : evVal Tryd.prog Γ ob ρ ty (.build 13 #[]) = some (.agg [.val (.string ByteArray.empty), .val (.int .u64 0)]) := (show evBuild Tryd.prog 13 [] = some (.agg [.val (.string ByteArray.empty), .val (.int .u64 0)]) from by kernel_rfl)
theorem bs_13 : isByteSlice Tryd.prog 13 = false := by kernel_rfl
theorem is_13 : isStr Tryd.prog 13 = false := by kernel_rfl
theorem sz_21 : tySize Tryd.prog 21 = some 1 := by kernel_rfl
theorem ag_21 : tyAgg Tryd.prog 21 = some false := by kernel_rfl
theorem by_21 : tyBytes Tryd.prog 21 = some 4 := by kernel_rfl
theorem ze_21 : zeroOf Tryd.prog 21 = some (.int .i32 0) := by kernel_rfl
theorem un_21 : Tryd.prog.underlying 21 = some (.int .i32) := by kernel_rfl
theorem oz_21 : ofVal (.int .i32 0) = .val (.int .i32 0) := rfl
theorem ea_21 {Γ : Ctx} (s : AS) (ρ : Operand → PV) : evEff Tryd.prog Γ s ρ (.alloc 21) = some (.own s.nx 1 0 0, upd s.ob s.nx (some (21, 1, [.val (.int .i32 0)])), s.nx + 1) := ea_of ze_21 (by kernel_rfl) rfl rfl s ρ
theorem bs_21 : isByteSlice Tryd.prog 21 = false := by kernel_rfl
theorem is_21 : isStr Tryd.prog 21 = false := by kernel_rfl
theorem sz_28 : tySize Tryd.prog 28 = some 2 := by kernel_rfl
theorem ag_28 : tyAgg Tryd.prog 28 = some true := by kernel_rfl
theorem by_28 : tyBytes Tryd.prog 28 = some 32 := by kernel_rfl
theorem ze_28 : zeroOf Tryd.prog 28 = some (.agg #[.int .i64 0, .slice none 0 0]) := by kernel_rfl
theorem fo_28_0 : fieldOff Tryd.prog 28 0 = some 0 := by kernel_rfl
theorem fo_28_1 : fieldOff Tryd.prog 28 1 = some 1 := by kernel_rfl
theorem pl_28 : structPlaces Tryd.prog 28 = some #[(0, 1), (1, 1)] := by kernel_rfl
theorem bl_28 (ps : List (Nat × PV)) : evBuild Tryd.prog 28 ps = (fillP (plF [(0, 1), (1, 1)]) [.val (.int .i64 0), .val (.slice none 0 0)] ps).map .agg := bl_of ze_28 rfl pl_28 ps
theorem oz_28 : ofVal (.agg #[.int .i64 0, .slice none 0 0]) = .agg [.val (.int .i64 0), .val (.slice none 0 0)] := rfl
theorem ea_28 {Γ : Ctx} (s : AS) (ρ : Operand → PV) : evEff Tryd.prog Γ s ρ (.alloc 28) = some (.own s.nx 2 0 0, upd s.ob s.nx (some (28, 2, [.agg [.val (.int .i64 0), .val (.slice none 0 0)]])), s.nx + 1) := ea_of ze_28 (by kernel_rfl) rfl rfl s ρ
theorem bz_28 {Γ : Ctx} {ob : Objs} {ρ : Operand → PV} {ty : Nat} : evVal Tryd.prog Γ ob ρ ty (.build 28 #[]) = some (.agg [.val (.int .i64 0), .val (.slice none 0 0)]) := (show evBuild Tryd.prog 28 [] = some (.agg [.val (.int .i64 0), .val (.slice none 0 0)]) from by kernel_rfl)
theorem bs_28 : isByteSlice Tryd.prog 28 = false := by kernel_rfl
theorem is_28 : isStr Tryd.prog 28 = false := by kernel_rfl
theorem sz_29 : tySize Tryd.prog 29 = some 2 := by kernel_rfl
theorem ag_29 : tyAgg Tryd.prog 29 = some true := by kernel_rfl
theorem by_29 : tyBytes Tryd.prog 29 = some 32 := by kernel_rfl
theorem ze_29 : zeroOf Tryd.prog 29 = some (.agg #[.int .i64 0, .slice none 0 0]) := by kernel_rfl
theorem fo_29_0 : fieldOff Tryd.prog 29 0 = some 0 := by kernel_rfl
theorem fo_29_1 : fieldOff Tryd.prog 29 1 = some 1 := by kernel_rfl
theorem pl_29 : structPlaces Tryd.prog 29 = some #[(0, 1), (1, 1)] := by kernel_rfl
theorem bl_29 (ps : List (Nat × PV)) : evBuild Tryd.prog 29 ps = (fillP (plF [(0, 1), (1, 1)]) [.val (.int .i64 0), .val (.slice none 0 0)] ps).map .agg := bl_of ze_29 rfl pl_29 ps
theorem oz_29 : ofVal (.agg #[.int .i64 0, .slice none 0 0]) = .agg [.val (.int .i64 0), .val (.slice none 0 0)] := rfl
theorem ea_29 {Γ : Ctx} (s : AS) (ρ : Operand → PV) : evEff Tryd.prog Γ s ρ (.alloc 29) = some (.own s.nx 2 0 0, upd s.ob s.nx (some (29, 2, [.agg [.val (.int .i64 0), .val (.slice none 0 0)]])), s.nx + 1) := ea_of ze_29 (by kernel_rfl) rfl rfl s ρ
theorem bz_29 {Γ : Ctx} {ob : Objs} {ρ : Operand → PV} {ty : Nat} : evVal Tryd.prog Γ ob ρ ty (.build 29 #[]) = some (.agg [.val (.int .i64 0), .val (.slice none 0 0)]) := (show evBuild Tryd.prog 29 [] = some (.agg [.val (.int .i64 0), .val (.slice none 0 0)]) from by kernel_rfl)
theorem bs_29 : isByteSlice Tryd.prog 29 = false := by kernel_rfl
theorem is_29 : isStr Tryd.prog 29 = false := by kernel_rfl
theorem sz_32 : tySize Tryd.prog 32 = some 2 := by kernel_rfl
theorem ag_32 : tyAgg Tryd.prog 32 = some true := by kernel_rfl
theorem by_32 : tyBytes Tryd.prog 32 = some 32 := by kernel_rfl
theorem ze_32 : zeroOf Tryd.prog 32 = some (.agg #[.int .i64 0, .slice none 0 0]) := by kernel_rfl
theorem fo_32_0 : fieldOff Tryd.prog 32 0 = some 0 := by kernel_rfl
theorem fo_32_1 : fieldOff Tryd.prog 32 1 = some 1 := by kernel_rfl
theorem pl_32 : structPlaces Tryd.prog 32 = some #[(0, 1), (1, 1)] := by kernel_rfl
theorem bl_32 (ps : List (Nat × PV)) : evBuild Tryd.prog 32 ps = (fillP (plF [(0, 1), (1, 1)]) [.val (.int .i64 0), .val (.slice none 0 0)] ps).map .agg := bl_of ze_32 rfl pl_32 ps
theorem oz_32 : ofVal (.agg #[.int .i64 0, .slice none 0 0]) = .agg [.val (.int .i64 0), .val (.slice none 0 0)] := rfl
theorem ea_32 {Γ : Ctx} (s : AS) (ρ : Operand → PV) : evEff Tryd.prog Γ s ρ (.alloc 32) = some (.own s.nx 2 0 0, upd s.ob s.nx (some (32, 2, [.agg [.val (.int .i64 0), .val (.slice none 0 0)]])), s.nx + 1) := ea_of ze_32 (by kernel_rfl) rfl rfl s ρ
theorem bz_32 {Γ : Ctx} {ob : Objs} {ρ : Operand → PV} {ty : Nat} : evVal Tryd.prog Γ ob ρ ty (.build 32 #[]) = some (.agg [.val (.int .i64 0), .val (.slice none 0 0)]) := (show evBuild Tryd.prog 32 [] = some (.agg [.val (.int .i64 0), .val (.slice none 0 0)]) from by kernel_rfl)
theorem bs_32 : isByteSlice Tryd.prog 32 = false := by kernel_rfl
theorem is_32 : isStr Tryd.prog 32 = false := by kernel_rfl
theorem sz_79 : tySize Tryd.prog 79 = some 4 := by kernel_rfl
theorem ag_79 : tyAgg Tryd.prog 79 = some true := by kernel_rfl
theorem by_79 : tyBytes Tryd.prog 79 = some 32 := by kernel_rfl
theorem ze_79 : zeroOf Tryd.prog 79 = some (.agg #[.int .i64 0, .int .i64 0, .int .i64 0, .int .i64 0]) := by kernel_rfl
theorem fo_79_0 : fieldOff Tryd.prog 79 0 = some 0 := by kernel_rfl
theorem fo_79_1 : fieldOff Tryd.prog 79 1 = some 1 := by kernel_rfl
theorem fo_79_2 : fieldOff Tryd.prog 79 2 = some 2 := by kernel_rfl
theorem fo_79_3 : fieldOff Tryd.prog 79 3 = some 3 := by kernel_rfl
theorem pl_79 : structPlaces Tryd.prog 79 = some #[(0, 1), (1, 1), (2, 1), (3, 1)] := by kernel_rfl
theorem bl_79 (ps : List (Nat × PV)) : evBuild Tryd.prog 79 ps = (fillP (plF [(0, 1), (1, 1), (2, 1), (3, 1)]) [.val (.int .i64 0), .val (.int .i64 0), .val (.int .i64 0), .val (.int .i64 0)] ps).map .agg := bl_of ze_79 rfl pl_79 ps
theorem oz_79 : ofVal (.agg #[.int .i64 0, .int .i64 0, .int .i64 0, .int .i64 0]) = .agg [.val (.int .i64 0), .val (.int .i64 0), .val (.int .i64 0), .val (.int .i64 0)] := rfl
theorem ea_79 {Γ : Ctx} (s : AS) (ρ : Operand → PV) : evEff Tryd.prog Γ s ρ (.alloc 79) = some (.own s.nx 4 0 0, upd s.ob s.nx (some (79, 4, [.agg [.val (.int .i64 0), .val (.int .i64 0), .val (.int .i64 0), .val (.int .i64 0)]])), s.nx + 1) := ea_of ze_79 (by kernel_rfl) rfl rfl s ρ
theorem bz_79 {Γ : Ctx} {ob : Objs} {ρ : Operand → PV} {ty : Nat} : evVal Tryd.prog Γ ob ρ ty (.build 79 #[]) = some (.agg [.val (.int .i64 0), .val (.int .i64 0), .val (.int .i64 0), .val (.int .i64 0)]) := (show evBuild Tryd.prog 79 [] = some (.agg [.val (.int .i64 0), .val (.int .i64 0), .val (.int .i64 0), .val (.int .i64 0)]) from by kernel_rfl)
theorem bs_79 : isByteSlice Tryd.prog 79 = false := by kernel_rfl
theorem is_79 : isStr Tryd.prog 79 = false := by kernel_rfl
theorem sz_80 : tySize Tryd.prog 80 = some 4 := by kernel_rfl
theorem ag_80 : tyAgg Tryd.prog 80 = some true := by kernel_rfl
theorem by_80 : tyBytes Tryd.prog 80 = some 32 := by kernel_rfl
theorem ze_80 : zeroOf Tryd.prog 80 = some (.agg #[.int .i64 0, .int .i64 0, .int .i64 0, .int .i64 0]) := by kernel_rfl
theorem fo_80_0 : fieldOff Tryd.prog 80 0 = some 0 := by kernel_rfl
theorem fo_80_1 : fieldOff Tryd.prog 80 1 = some 1 := by kernel_rfl
theorem fo_80_2 : fieldOff Tryd.prog 80 2 = some 2 := by kernel_rfl
theorem fo_80_3 : fieldOff Tryd.prog 80 3 = some 3 := by kernel_rfl
theorem pl_80 : structPlaces Tryd.prog 80 = some #[(0, 1), (1, 1), (2, 1), (3, 1)] := by kernel_rfl
theorem bl_80 (ps : List (Nat × PV)) : evBuild Tryd.prog 80 ps = (fillP (plF [(0, 1), (1, 1), (2, 1), (3, 1)]) [.val (.int .i64 0), .val (.int .i64 0), .val (.int .i64 0), .val (.int .i64 0)] ps).map .agg := bl_of ze_80 rfl pl_80 ps
theorem oz_80 : ofVal (.agg #[.int .i64 0, .int .i64 0, .int .i64 0, .int .i64 0]) = .agg [.val (.int .i64 0), .val (.int .i64 0), .val (.int .i64 0), .val (.int .i64 0)] := rfl
theorem ea_80 {Γ : Ctx} (s : AS) (ρ : Operand → PV) : evEff Tryd.prog Γ s ρ (.alloc 80) = some (.own s.nx 4 0 0, upd s.ob s.nx (some (80, 4, [.agg [.val (.int .i64 0), .val (.int .i64 0), .val (.int .i64 0), .val (.int .i64 0)]])), s.nx + 1) := ea_of ze_80 (by kernel_rfl) rfl rfl s ρ
theorem bz_80 {Γ : Ctx} {ob : Objs} {ρ : Operand → PV} {ty : Nat} : evVal Tryd.prog Γ ob ρ ty (.build 80 #[]) = some (.agg [.val (.int .i64 0), .val (.int .i64 0), .val (.int .i64 0), .val (.int .i64 0)]) := (show evBuild Tryd.prog 80 [] = some (.agg [.val (.int .i64 0), .val (.int .i64 0), .val (.int .i64 0), .val (.int .i64 0)]) from by kernel_rfl)
theorem fd_80 : Tryd.prog.underlying 80 = some (.struct (Go.Program.fieldsOf Tryd.prog 80)) := by kernel_rfl
theorem ef_80 {a0 b0 : Int} {a1 b1 : Int} {a2 b2 : Int} {a3 b3 : Int} : eqFl Tryd.prog [.int .i64 a0, .int .i64 a1, .int .i64 a2, .int .i64 a3] [.int .i64 b0, .int .i64 b1, .int .i64 b2, .int .i64 b3] (Go.Program.fieldsOf Tryd.prog 80).toList = some ((a0 == b0) && ((a1 == b1) && ((a2 == b2) && ((a3 == b3) && true)))) := by kernel_rfl
theorem sqeql_80 {x y : Operand} {a0 b0 : Int} {a1 b1 : Int} {a2 b2 : Int} {a3 b3 : Int} : binP Tryd.prog .eql 80 x y (some (.agg #[.int .i64 a0, .int .i64 a1, .int .i64 a2, .int .i64 a3])) (some (.agg #[.int .i64 b0, .int .i64 b1, .int .i64 b2, .int .i64 b3])) = some (.val (.bool ((a0 == b0) && ((a1 == b1) && ((a2 == b2) && ((a3 == b3) && true)))))) := bp_eqlA fd_80 (by kernel_rfl) (by kernel_rfl) ef_80
theorem sqneq_80 {x y : Operand} {a0 b0 : Int} {a1 b1 : Int} {a2 b2 : Int} {a3 b3 : Int} : binP Tryd.prog .neq 80 x y (some (.agg #[.int .i64 a0, .int .i64 a1, .int .i64 a2, .int .i64 a3])) (some (.agg #[.int .i64 b0, .int .i64 b1, .int .i64 b2, .int .i64 b3])) = some (.val (.bool (!((a0 == b0) && ((a1 == b1) && ((a2 == b2) && ((a3 == b3) && true))))))) := bp_neqA fd_80 (by kernel_rfl) (by kernel_rfl) ef_80
theorem bs_80 : isByteSlice Tryd.prog 80 = false := by kernel_rfl
theorem is_80 : isStr Tryd.prog 80 = false := by kernel_rfl
theorem sz_100 : tySize Tryd.prog 100 = some 2 := by kernel_rfl
theorem ag_100 : tyAgg Tryd.prog 100 = some true := by kernel_rfl
theorem by_100 : tyBytes Tryd.prog 100 = some 32 := by kernel_rfl
theorem ze_100 : zeroOf Tryd.prog 100 = some (.agg #[.slice none 0 0, .int .i64 0]) := by kernel_rfl
theorem fo_100_0 : fieldOff Tryd.prog 100 0 = some 0 := by kernel_rfl
theorem fo_100_1 : fieldOff Tryd.prog 100 1 = some 1 := by kernel_rfl
theorem pl_100 : structPlaces Tryd.prog 100 = some #[(0, 1), (1, 1)] := by kernel_rfl
theorem bl_100 (ps : List (Nat × PV)) : evBuild Tryd.prog 100 ps = (fillP (plF [(0, 1), (1, 1)]) [.val (.slice none 0 0), .val (.int .i64 0)] ps).map .agg := bl_of ze_100 rfl pl_100 ps
theorem oz_100 : ofVal (.agg #[.slice none 0 0, .int .i64 0]) = .agg [.val (.slice none 0 0), .val (.int .i64 0)] := rfl
theorem ea_100 {Γ : Ctx} (s : AS) (ρ : Operand → PV) : evEff Tryd.prog Γ s ρ (.alloc 100) = some (.own s.nx 2 0 0, upd s.ob s.nx (some (100, 2, [.agg [.val (.slice none 0 0), .val (.int .i64 0)]])), s.nx + 1) := ea_of ze_100 (by kernel_rfl) rfl rfl s ρ
theorem bz_100 {Γ : Ctx} {ob : Objs} {ρ : Operand → PV} {ty : Nat} : evVal Tryd.prog Γ ob ρ ty (.build 100 #[]) = some (.agg [.val (.slice none 0 0), .val (.int .i64 0)]) := (show evBuild Tryd.prog 100 [] = some (.agg [.val (.slice none 0 0), .val (.int .i64 0)]) from by kernel_rfl)
theorem bs_100 : isByteSlice Tryd.prog 100 = false := by kernel_rfl
theorem is_100 : isStr Tryd.prog 100 = false := by kernel_rfl
theorem sz_101 : tySize Tryd.prog 101 = some 2 := by kernel_rfl
theorem ag_101 : tyAgg Tryd.prog 101 = some true := by kernel_rfl
theorem by_101 : tyBytes Tryd.prog 101 = some 32 := by kernel_rfl
theorem ze_101 : zeroOf Tryd.prog 101 = some (.agg #[.slice none 0 0, .int .i64 0]) := by kernel_rfl
theorem fo_101_0 : fieldOff Tryd.prog 101 0 = some 0 := by kernel_rfl
theorem fo_101_1 : fieldOff Tryd.prog 101 1 = some 1 := by kernel_rfl
theorem pl_101 : structPlaces Tryd.prog 101 = some #[(0, 1), (1, 1)] := by kernel_rfl
theorem bl_101 (ps : List (Nat × PV)) : evBuild Tryd.prog 101 ps = (fillP (plF [(0, 1), (1, 1)]) [.val (.slice none 0 0), .val (.int .i64 0)] ps).map .agg := bl_of ze_101 rfl pl_101 ps
theorem oz_101 : ofVal (.agg #[.slice none 0 0, .int .i64 0]) = .agg [.val (.slice none 0 0), .val (.int .i64 0)] := rfl
theorem ea_101 {Γ : Ctx} (s : AS) (ρ : Operand → PV) : evEff Tryd.prog Γ s ρ (.alloc 101) = some (.own s.nx 2 0 0, upd s.ob s.nx (some (101, 2, [.agg [.val (.slice none 0 0), .val (.int .i64 0)]])), s.nx + 1) := ea_of ze_101 (by kernel_rfl) rfl rfl s ρ
theorem bz_101 {Γ : Ctx} {ob : Objs} {ρ : Operand → PV} {ty : Nat} : evVal Tryd.prog Γ ob ρ ty (.build 101 #[]) = some (.agg [.val (.slice none 0 0), .val (.int .i64 0)]) := (show evBuild Tryd.prog 101 [] = some (.agg [.val (.slice none 0 0), .val (.int .i64 0)]) from by kernel_rfl)
theorem bs_101 : isByteSlice Tryd.prog 101 = false := by kernel_rfl
theorem is_101 : isStr Tryd.prog 101 = false := by kernel_rfl
theorem sz_102 : tySize Tryd.prog 102 = some 1 := by kernel_rfl
theorem ag_102 : tyAgg Tryd.prog 102 = some false := by kernel_rfl
theorem by_102 : tyBytes Tryd.prog 102 = some 8 := by kernel_rfl
theorem ze_102 : zeroOf Tryd.prog 102 = some (.int .u64 0) := by kernel_rfl
theorem un_102 : Tryd.prog.underlying 102 = some (.int .u64) := by kernel_rfl
theorem oz_102 : ofVal (.int .u64 0) = .val (.int .u64 0) := rfl
theorem ea_102 {Γ : Ctx} (s : AS) (ρ : Operand → PV) : evEff Tryd.prog Γ s ρ (.alloc 102) = some (.own s.nx 1 0 0, upd s.ob s.nx (some (102, 1, [.val (.int .u64 0)])), s.nx + 1) := ea_of ze_102 (by kernel_rfl) rfl rfl s ρ
theorem bs_102 : isByteSlice Tryd.prog 102 = false := by kernel_rfl
theorem is_102 : isStr Tryd.prog 102 = false := by kernel_rfl
theorem sz_120 : tySize Tryd.prog 120 = some 1 := by kernel_rfl
theorem ag_120 : tyAgg Tryd.prog 120 = some false := by kernel_rfl
theorem by_120 : tyBytes Tryd.prog 120 = some 4 := by kernel_rfl
theorem ze_120 : zeroOf Tryd.prog 120 = some (.int .u32 0) := by kernel_rfl
theorem un_120 : Tryd.prog.underlying 120 = some (.int .u32) := by kernel_rfl
theorem oz_120 : ofVal (.int .u32 0) = .val (.int .u32 0) := rfl
theorem ea_120 {Γ : Ctx} (s : AS) (ρ : Operand → PV) : evEff Tryd.prog Γ s ρ (.alloc 120) = some (.own s.nx 1 0 0, upd s.ob s.nx (some (120, 1, [.val (.int .u32 0)])), s.nx + 1) := ea_of ze_120 (by kernel_rfl) rfl rfl s ρ
theorem bs_120 : isByteSlice Tryd.prog 120 = false := by kernel_rfl
theorem is_120 : isStr Tryd.prog 120 = false := by kernel_rfl
theorem sz_123 : tySize Tryd.prog 123 = some 1 := by kernel_rfl
theorem ag_123 : tyAgg Tryd.prog 123 = some false := by kernel_rfl
theorem by_123 : tyBytes Tryd.prog 123 = some 8 := by kernel_rfl
theorem ze_123 : zeroOf Tryd.prog 123 = some (.int .u64 0) := by kernel_rfl
theorem un_123 : Tryd.prog.underlying 123 = some (.int .u64) := by kernel_rfl
theorem oz_123 : ofVal (.int .u64 0) = .val (.int .u64 0) := rfl
theorem ea_123 {Γ : Ctx} (s : AS) (ρ : Operand → PV) : evEff Tryd.prog Γ s ρ (.alloc 123) = some (.own s.nx 1 0 0, upd s.ob s.nx (some (123, 1, [.val (.int .u64 0)])), s.nx + 1) := ea_of ze_123 (by kernel_rfl) rfl rfl s ρ
theorem bs_123 : isByteSlice Tryd.prog 123 = false := by kernel_rfl
theorem is_123 : isStr Tryd.prog 123 = false := by kernel_rfl
theorem sz_130 : tySize Tryd.prog 130 = some 24 := by kernel_rfl
theorem ag_130 : tyAgg Tryd.prog 130 = some true := by kernel_rfl
theorem by_130 : tyBytes Tryd.prog 130 = some 24 := by kernel_rfl
theorem ze_130 : zeroOf Tryd.prog 130 = some (.agg #[.int .u8 0, .int .u8 0, .int .u8 0, .int .u8 0, .int .u8 0, .int .u8 0, .int .u8 0, .int .u8 0, .int .u8 0, .int .u8 0, .int .u8 0, .int .u8 0, .int .u8 0, .int .u8 0, .int .u8 0, .int .u8 0, .int .u8 0, .int .u8 0, .int .u8 0, .int .u8 0, .int .u8 0, .int .u8 0, .int .u8 0, .int .u8 0]) := by kernel_rfl
theorem un_130 : Tryd.prog.underlying 130 = some (.array 24 5) := by kernel_rfl
theorem oz_130 : ofVal (.agg #[.int .u8 0, .int .u8 0, .int .u8 0, .int .u8 0, .int .u8 0, .int .u8 0, .int .u8 0, .int .u8 0, .int .u8 0, .int .u8 0, .int .u8 0, .int .u8 0, .int .u8 0, .int .u8 0, .int .u8 0, .int .u8 0, .int .u8 0, .int .u8 0, .int .u8 0, .int .u8 0, .int .u8 0, .int .u8 0, .int .u8 0, .int .u8 0]) = .agg [.val (.int .u8 0), .val (.int .u8 0), .val (.int .u8 0), .val (.int .u8 0), .val (.int .u8 0), .val (.int .u8 0), .val (.int .u8 0), .val (.int .u8 0), .val (.int .u8 0), .val (.int .u8 0), .val (.int .u8 0), .val (.int .u8 0), .val (.int .u8 0), .val (.int .u8 0), .val (.int .u8 0), .val (.int .u8 0), .val (.int .u8 0), .val (.int .u8 0), .val (.int .u8 0), .val (.int .u8 0), .val (.int .u8 0), .val (.int .u8 0), .val (.int .u8 0), .val (.int .u8 0)] := rfl
theorem ea_130 {Γ : Ctx} (s : AS) (ρ : Operand → PV) : evEff Tryd.prog Γ s ρ (.alloc 130) = some (.own s.nx 24 0 0, upd s.ob s.nx (some (130, 24, [.agg [.val (.int .u8 0), .val (.int .u8 0), .val (.int .u8 0), .val (.int .u8 0), .val (.int .u8 0), .val (.int .u8 0), .val (.int .u8 0), .val (.int .u8 0), .val (.int .u8 0), .val (.int .u8 0), .val (.int .u8 0), .val (.int .u8 0), .val (.int .u8 0), .val (.int .u8 0), .val (.int .u8 0), .val (.int .u8 0), .val (.int .u8 0), .val (.int .u8 0), .val (.int .u8 0), .val (.int .u8 0), .val (.int .u8 0), .val (.int .u8 0), .val (.int .u8 0), .val (.int .u8 0)]])), s.nx + 1) := ea_of ze_130 (by kernel_rfl) rfl rfl s ρ
theorem bs_130 : isByteSlice Tryd.prog 130 = false := by kernel_rfl
theorem is_130 : isStr Tryd.prog 130 = false := by kernel_rfl
theorem sz_137 : tySize Tryd.prog 137 = some 20 := by kernel_rfl
theorem ag_137 : tyAgg Tryd.prog 137 = some true := by kernel_rfl
theorem by_137 : tyBytes Tryd.prog 137 = some 160 := by kernel_rfl
theorem ze_137 : zeroOf Tryd.prog 137 = some (.agg #[.int .u64 0, .int .u64 0, .int .u64 0, .int .u64 0, .int .u64 0, .int .u64 0, .int .u64 0, .int .u64 0, .int .u64 0, .int .u64 0, .int .u64 0, .int .u64 0, .int .u64 0, .int .u64 0, .int .u64 0, .int .u64 0, .int .u64 0, .int .u64 0, .int .u64 0, .int .u64 0]) := by kernel_rfl
theorem un_137 : Tryd.prog.underlying 137 = some (.array 20 123) := by kernel_rfl
theorem oz_137 : ofVal (.agg #[.int .u64 0, .int .u64 0, .int .u64 0, .int .u64 0, .int .u64 0, .int .u64 0, .int .u64 0, .int .u64 0, .int .u64 0, .int .u64 0, .int .u64 0, .int .u64 0, .int .u64 0, .int .u64 0, .int .u64 0, .int .u64 0, .int .u64 0, .int .u64 0, .int .u64 0, .int .u64 0]) = .agg [.val (.int .u64 0), .val (.int .u64 0), .val (.int .u64 0), .val (.int .u64 0), .val (.int .u64 0), .val (.int .u64 0), .val (.int .u64 0), .val (.int .u64 0), .val (.int .u64 0), .val (.int .u64 0), .val (.int .u64 0), .val (.int .u64 0), .val (.int .u64 0), .val (.int .u64 0), .val (.int .u64 0), .val (.int .u64 0), .val (.int .u64 0), .val (.int .u64 0), .val (.int .u64 0), .val (.int .u64 0)] := rfl
theorem ea_137 {Γ : Ctx} (s : AS) (ρ : Operand → PV) : evEff Tryd.prog Γ s ρ (.alloc 137) = some (.own s.nx 20 0 0, upd s.ob s.nx (some (137, 20, [.agg [.val (.int .u64 0), .val (.int .u64 0), .val (.int .u64 0), .val (.int .u64 0), .val (.int .u64 0), .val (.int .u64 0), .val (.int .u64 0), .val (.int .u64 0), .val (.int .u64 0), .val (.int .u64 0), .val (.int .u64 0), .val (.int .u64 0), .val (.int .u64 0), .val (.int .u64 0), .val (.int .u64 0), .val (.int .u64 0), .val (.int .u64 0), .val (.int .u64 0), .val (.int .u64 0), .val (.int .u64 0)]])), s.nx + 1) := ea_of ze_137 (by kernel_rfl) rfl rfl s ρ
theorem bs_137 : isByteSlice Tryd.prog 137 = false := by kernel_rfl
theorem is_137 : isStr Tryd.prog 137 = false := by kernel_rfl
theorem sz_141 : tySize Tryd.prog 141 = some 2 := by kernel_rfl
theorem ag_141 : tyAgg Tryd.prog 141 = some true := by kernel_rfl
theorem by_141 : tyBytes Tryd.prog 141 = some 2 := by kernel_rfl
theorem ze_141 : zeroOf Tryd.prog 141 = some (.agg #[.int .u8 0, .int .u8 0]) := by kernel_rfl
theorem fo_141_0 : fieldOff Tryd.prog 141 0 = some 0 := by kernel_rfl
theorem fo_141_1 : fieldOff Tryd.prog 141 1 = some 1 := by kernel_rfl
theorem pl_141 : structPlaces Tryd.prog 141 = some #[(0, 1), (1, 1)] := by kernel_rfl
theorem bl_141 (ps : List (Nat × PV)) : evBuild Tryd.prog 141 ps = (fillP (plF [(0, 1), (1, 1)]) [.val (.int .u8 0), .val (.int .u8 0)] ps).map .agg := bl_of ze_141 rfl pl_141 ps
theorem oz_141 : ofVal (.agg #[.int .u8 0, .int .u8 0]) = .agg [.val (.int .u8 0), .val (.int .u8 0)] := rfl
theorem ea_141 {Γ : Ctx} (s : AS) (ρ : Operand → PV) : evEff Tryd.prog Γ s ρ (.alloc 141) = some (.own s.nx 2 0 0, upd s.ob s.nx (some (141, 2, [.agg [.val (.int .u8 0), .val (.int .u8 0)]])), s.nx + 1) := ea_of ze_141 (by kernel_rfl) rfl rfl s ρ
theorem bz_141 {Γ : Ctx} {ob : Objs} {ρ : Operand → PV} {ty : Nat} : evVal Tryd.prog Γ ob ρ ty (.build 141 #[]) = some (.agg [.val (.int .u8 0), .val (.int .u8 0)]) := (show evBuild Tryd.prog 141 [] = some (.agg [.val (.int .u8 0), .val (.int .u8 0)]) from by kernel_rfl)
theorem bs_141 : isByteSlice Tryd.prog 141 = false := by kernel_rfl
theorem is_141 : isStr Tryd.prog 141 = false := by kernel_rfl
theorem sz_142 : tySize Tryd.prog 142 = some 2 := by kernel_rfl
theorem ag_142 : tyAgg Tryd.prog 142 = some true := by kernel_rfl
theorem by_142 : tyBytes Tryd.prog 142 = some 2 := by kernel_rfl
theorem ze_142 : zeroOf Tryd.prog 142 = some (.agg #[.int .u8 0, .int .u8 0]) := by kernel_rfl
theorem fo_142_0 : fieldOff Tryd.prog 142 0 = some 0 := by kernel_rfl
theorem fo_142_1 : fieldOff Tryd.prog 142 1 = some 1 := by kernel_rfl
theorem pl_142 : structPlaces Tryd.prog 142 = some #[(0, 1), (1, 1)] := by kernel_rfl
theorem bl_142 (ps : List (Nat × PV)) : evBuild Tryd.prog 142 ps = (fillP (plF [(0, 1), (1, 1)]) [.val (.int .u8 0), .val (.int .u8 0)] ps).map .agg := bl_of ze_142 rfl pl_142 ps
theorem oz_142 : ofVal (.agg #[.int .u8 0, .int .u8 0]) = .agg [.val (.int .u8 0), .val (.int .u8 0)] := rfl
theorem ea_142 {Γ : Ctx} (s : AS) (ρ : Operand → PV) : evEff Tryd.prog Γ s ρ (.alloc 142) = some (.own s.nx 2 0 0, upd s.ob s.nx (some (142, 2, [.agg [.val (.int .u8 0), .val (.int .u8 0)]])), s.nx + 1) := ea_of ze_142 (by kernel_rfl) rfl rfl s ρ
theorem bz_142 {Γ : Ctx} {ob : Objs} {ρ : Operand → PV} {ty : Nat} : evVal Tryd.prog Γ ob ρ ty (.build 142 #[]) = some (.agg [.val (.int .u8 0), .val (.int .u8 0)]) := (show evBuild Tryd.prog 142 [] = some (.agg [.val (.int .u8 0), .val (.int .u8 0)]) from by kernel_rfl)
theorem bs_142 : isByteSlice Tryd.prog 142 = false := by kernel_rfl
theorem is_142 : isStr Tryd.prog 142 = false := by kernel_rfl
theorem sz_143 : tySize Tryd.prog 143 = some 32 := by kernel_rfl
theorem ag_143 : tyAgg Tryd.prog 143 = some true := by kernel_rfl
theorem by_143 : tyBytes Tryd.prog 143 = some 32 := by kernel_rfl
theorem ze_143 : zeroOf Tryd.prog 143 = some (.agg #[.int .u8 0, .int .u8 0, .int .u8 0, .int .u8 0, .int .u8 0, .int .u8 0, .int .u8 0, .int .u8 0, .int .u8 0, .int .u8 0, .int .u8 0, .int .u8 0, .int .u8 0, .int .u8 0, .int .u8 0, .int .u8 0, .int .u8 0, .int .u8 0, .int .u8 0, .int .u8 0, .int .u8 0, .int .u8 0, .int .u8 0, .int .u8 0, .int .u8 0, .int .u8 0, .int .u8 0, .int .u8 0, .int .u8 0, .int .u8 0, .int .u8 0, .int .u8 0]) := by kernel_rfl
theorem un_143 : Tryd.prog.underlying 143 = some (.array 16 142) := by kernel_rfl
theorem oz_143 : ofVal (.agg #[.int .u8 0, .int .u8 0, .int .u8 0, .int .u8 0, .int .u8 0, .int .u8 0, .int .u8 0, .int .u8 0, .int .u8 0, .int .u8 0, .int .u8 0, .int .u8 0, .int .u8 0, .int .u8 0, .int .u8 0, .int .u8 0, .int .u8 0, .int .u8 0, .int .u8 0, .int .u8 0, .int .u8 0, .int .u8 0, .int .u8 0, .int .u8 0, .int .u8 0, .int .u8 0, .int .u8 0, .int .u8 0, .int .u8 0, .int .u8 0, .int .u8 0, .int .u8 0]) = .agg [.val (.int .u8 0), .val (.int .u8 0), .val (.int .u8 0), .val (.int .u8 0), .val (.int .u8 0), .val (.int .u8 0), .val (.int .u8 0), .val (.int .u8 0), .val (.int .u8 0), .val (.int .u8 0), .val (.int .u8 0), .val (.int .u8 0), .val (.int .u8 0), .val (.int .u8 0), .val (.int .u8 0), .val (.int .u8 0), .val (.int .u8 0), .val (.int .u8 0), .val (.int .u8 0), .val (.int .u8 0), .val (.int .u8 0), .val (.int .u8 0), .val (.int .u8 0), .val (.int .u8 0), .val (.int .u8 0), .val (.int .u8 0), .val (.int .u8 0), .val (.int .u8 0), .val (.int .u8 0), .val (.int .u8 0), .val (.int .u8 0), .val (.int .u8 0)] := rfl
theorem ea_143 {Γ : Ctx} (s : AS) (ρ : Operand → PV) : evEff Tryd.prog Γ s ρ (.alloc 143) = some (.own s.nx 32 0 0, upd s.ob s.nx (some (143, 32, [.agg [.val (.int .u8 0), .val (.int .u8 0), .val (.int .u8 0), .val (.int .u8 0), .val (.int .u8 0), .val (.int .u8 0), .val (.int .u8 0), .val (.int .u8 0), .val (.int .u8 0), .val (.int .u8 0), .val (.int .u8 0), .val (.int .u8 0), .val (.int .u8 0), .val (.int .u8 0), .val (.int .u8 0), .val (.int .u8 0), .val (.int .u8 0), .val (.int .u8 0), .val (.int .u8 0), .val (.int .u8 0), .val (.int .u8 0), .val (.int .u8 0), .val (.int .u8 0), .val (.int .u8 0), .val (.int .u8 0), .val (.int .u8 0), .val (.int .u8 0), .val (.int .u8 0), .val (.int .u8 0), .val (.int .u8 0), .val (.int .u8 0), .val (.int .u8 0)]])), s.nx + 1) := ea_of ze_143 (by kernel_rfl) rfl rfl s ρ
theorem bs_143 : isByteSlice Tryd.prog 143 = false := by kernel_rfl
theorem is_143 : isStr Tryd.prog 143 = false := by kernel_rfl
theorem sz_146 : tySize Tryd.prog 146 = some 32 := by kernel_rfl
theorem ag_146 : tyAgg Tryd.prog 146 = some true := by kernel_rfl
theorem by_146 : tyBytes Tryd.prog 146 = some 32 := by kernel_rfl
theorem ze_146 : zeroOf Tryd.prog 146 = some (.agg #[.int .u8 0, .int .u8 0, .int .u8 0, .int .u8 0, .int .u8 0, .int .u8 0, .int .u8 0, .int .u8 0, .int .u8 0, .int .u8 0, .int .u8 0, .int .u8 0, .int .u8 0, .int .u8 0, .int .u8 0, .int .u8 0, .int .u8 0, .int .u8 0, .int .u8 0, .int .u8 0, .int .u8 0, .int .u8 0, .int .u8 0, .int .u8 0, .int .u8 0, .int .u8 0, .int .u8 0, .int .u8 0, .int .u8 0, .int .u8 0, .int .u8 0, .int .u8 0]) := by kernel_rfl
theorem un_146 : Tryd.prog.underlying 146 = some (.array 32 5) := by kernel_rfl
theorem oz_146 : ofVal (.agg #[.int .u8 0, .int .u8 0, .int .u8 0, .int .u8 0, .int .u8 0, .int .u8 0, .int .u8 0, .int .u8 0, .int .u8 0, .int .u8 0, .int .u8 0, .int .u8 0, .int .u8 0, .int .u8 0, .int .u8 0, .int .u8 0, .int .u8 0, .int .u8 0, .int .u8 0, .int .u8 0, .int .u8 0, .int .u8 0, .int .u8 0, .int .u8 0, .int .u8 0, .int .u8 0, .int .u8 0, .int .u8 0, .int .u8 0, .int .u8 0, .int .u8 0, .int .u8 0]) = .agg [.val (.int .u8 0), .val (.int .u8 0), .val (.int .u8 0), .val (.int .u8 0), .val (.int .u8 0), .val (.int .u8 0), .val (.int .u8 0), .val (.int .u8 0), .val (.int .u8 0), .val (.int .u8 0), .val (.int .u8 0), .val (.int .u8 0), .val (.int .u8 0), .val (.int .u8 0), .val (.int .u8 0), .val (.int .u8 0), .val (.int .u8 0), .val (.int .u8 0), .val (.int .u8 0), .val (.int .u8 0), .val (.int .u8 0), .val (.int .u8 0), .val (.int .u8 0), .val (.int .u8 0), .val (.int .u8 0), .val (.int .u8 0), .val (.int .u8 0), .val (.int .u8 0), .val (.int .u8 0), .val (.int .u8 0), .val (.int .u8 0), .val (.int .u8 0)] := rfl
theorem ea_146 {Γ : Ctx} (s : AS) (ρ : Operand → PV) : evEff Tryd.prog Γ s ρ (.alloc 146) = some (.own s.nx 32 0 0, upd s.ob s.nx (some (146, 32, [.agg [.val (.int .u8 0), .val (.int .u8 0), .val (.int .u8 0), .val (.int .u8 0), .val (.int .u8 0), .val (.int .u8 0), .val (.int .u8 0), .val (.int .u8 0), .val (.int .u8 0), .val (.int .u8 0), .val (.int .u8 0), .val (.int .u8 0), .val (.int .u8 0), .val (.int .u8 0), .val (.int .u8 0), .val (.int .u8 0), .val (.int .u8 0), .val (.int .u8 0), .val (.int .u8 0), .val (.int .u8 0), .val (.int .u8 0), .val (.int .u8 0), .val (.int .u8 0), .val (.int .u8 0), .val (.int .u8 0), .val (.int .u8 0), .val (.int .u8 0), .val (.int .u8 0), .val (.int .u8 0), .val (.int .u8 0), .val (.int .u8 0), .val (.int .u8 0)]])), s.nx + 1) := ea_of ze_146 (by kernel_rfl) rfl rfl s ρ
theorem bs_146 : isByteSlice Tryd.prog 146 = false := by kernel_rfl
theorem is_146 : isStr Tryd.prog 146 = false := by kernel_rfl
theorem sz_147 : tySize Tryd.prog 147 = some 64 := by kernel_rfl
theorem ag_147 : tyAgg Tryd.prog 147 = some true := by kernel_rfl
theorem by_147 : tyBytes Tryd.prog 147 = some 64 := by kernel_rfl
theorem ze_147 : zeroOf Tryd.prog 147 = some (.agg #[.int .u8 0, .int .u8 0, .int .u8 0, .int .u8 0, .int .u8 0, .int .u8 0, .int .u8 0, .int .u8 0, .int .u8 0, .int .u8 0, .int .u8 0, .int .u8 0, .int .u8 0, .int .u8 0, .int .u8 0, .int .u8 0, .int .u8 0, .int .u8 0, .int .u8 0, .int .u8 0, .int .u8 0, .int .u8 0, .int .u8 0, .int .u8 0, .int .u8 0, .int .u8 0, .int .u8 0, .int .u8 0, .int .u8 0, .int .u8 0, .int .u8 0, .int .u8 0, .int .u8 0, .int .u8 0, .int .u8 0, .int .u8 0, .int .u8 0, .int .u8 0, .int .u8 0, .int .u8 0, .int .u8 0, .int .u8 0, .int .u8 0, .int .u8 0, .int .u8 0, .int .u8 0, .int .u8 0, .int .u8 0, .int .u8 0, .int .u8 0, .int .u8 0, .int .u8 0, .int .u8 0, .int .u8 0, .int .u8 0, .int .u8 0, .int .u8 0, .int .u8 0, .int .u8 0, .int .u8 0, .int .u8 0, .int .u8 0, .int .u8 0, .int .u8 0]) := by kernel_rfl
theorem un_147 : Tryd.prog.underlying 147 = some (.array 64 5) := by kernel_rfl
theorem oz_147 : ofVal (.agg #[.int .u8 0, .int .u8 0, .int .u8 0, .int .u8 0, .int .u8 0, .int .u8 0, .int .u8 0, .int .u8 0, .int .u8 0, .int .u8 0, .int .u8 0, .int .u8 0, .int .u8 0, .int .u8 0, .int .u8 0, .int .u8 0, .int .u8 0, .int .u8 0, .int .u8 0, .int .u8 0, .int .u8 0, .int .u8 0, .int .u8 0, .int .u8 0, .int .u8 0, .int .u8 0, .int .u8 0, .int .u8 0, .int .u8 0, .int .u8 0, .int .u8 0, .int .u8 0, .int .u8 0, .int .u8 0, .int .u8 0, .int .u8 0, .int .u8 0, .int .u8 0, .int .u8 0, .int .u8 0, .int .u8 0, .int .u8 0, .int .u8 0, .int .u8 0, .int .u8 0, .int .u8 0, .int .u8 0, .int .u8 0, .int .u8 0, .int .u8 0, .int .u8 0, .int .u8 0, .int .u8 0, .int .u8 0, .int .u8 0, .int .u8 0, .int .u8 0, .int .u8 0, .int .u8 0, .int .u8 0, .int .u8 0, .int .u8 0, .int .u8 0, .int .u8 0]) = .agg [.val (.int .u8 0), .val (.int .u8 0), .val (.int .u8 0), .val (.int .u8 0), .val (.int .u8 0), .val (.int .u8 0), .val (.int .u8 0), .val (.int .u8 0), .val (.int .u8 0), .val (.int .u8 0), .val (.int .u8 0), .val (.int .u8 0), .val (.int .u8 0), .val (.int .u8 0), .val (.int .u8 0), .val (.int .u8 0), .val (.int .u8 0), .val (.int .u8 0), .val (.int .u8 0), .val (.int .u8 0), .val (.int .u8 0), .val (.int .u8 0), .val (.int .u8 0), .val (.int .u8 0), .val (.int .u8 0), .val (.int .u8 0), .val (.int .u8 0), .val (.int .u8 0), .val (.int .u8 0), .val (.int .u8 0), .val (.int .u8 0), .val (.int .u8 0), .val (.int .u8 0), .val (.int .u8 0), .val (.int .u8 0), .val (.int .u8 0), .val (.int .u8 0), .val (.int .u8 0), .val (.int .u8 0), .val (.int .u8 0), .val (.int .u8 0), .val (.int .u8 0), .val (.int .u8 0), .val (.int .u8 0), .val (.int .u8 0), .val (.int .u8 0), .val (.int .u8 0), .val (.int .u8 0), .val (.int .u8 0), .val (.int .u8 0), .val (.int .u8 0), .val (.int .u8 0), .val (.int .u8 0), .val (.int .u8 0), .val (.int .u8 0), .val (.int .u8 0), .val (.int .u8 0), .val (.int .u8 0), .val (.int .u8 0), .val (.int .u8 0), .val (.int .u8 0), .val (.int .u8 0), .val (.int .u8 0), .val (.int .u8 0)] := rfl
theorem ea_147 {Γ : Ctx} (s : AS) (ρ : Operand → PV) : evEff Tryd.prog Γ s ρ (.alloc 147) = some (.own s.nx 64 0 0, upd s.ob s.nx (some (147, 64, [.agg [.val (.int .u8 0), .val (.int .u8 0), .val (.int .u8 0), .val (.int .u8 0), .val (.int .u8 0), .val (.int .u8 0), .val (.int .u8 0), .val (.int .u8 0), .val (.int .u8 0), .val (.int .u8 0), .val (.int .u8 0), .val (.int .u8 0), .val (.int .u8 0), .val (.int .u8 0), .val (.int .u8 0), .val (.int .u8 0), .val (.int .u8 0), .val (.int .u8 0), .val (.int .u8 0), .val (.int .u8 0), .val (.int .u8 0), .val (.int .u8 0), .val (.int .u8 0), .val (.int .u8 0), .val (.int .u8 0), .val (.int .u8 0), .val (.int .u8 0), .val (.int .u8 0), .val (.int .u8 0), .val (.int .u8 0), .val (.int .u8 0), .val (.int .u8 0), .val (.int .u8 0), .val (.int .u8 0), .val (.int .u8 0), .val (.int .u8 0), .val (.int .u8 0), .val (.int .u8 0), .val (.int .u8 0), .val (.int .u8 0), .val (.int .u8 0), .val (.int .u8 0), .val (.int .u8 0), .val (.int .u8 0), .val (.int .u8 0), .val (.int .u8 0), .val (.int .u8 0), .val (.int .u8 0), .val (.int .u8 0), .val (.int .u8 0), .val (.int .u8 0), .val (.int .u8 0), .val (.int .u8 0), .val (.int .u8 0), .val (.int .u8 0), .val (.int .u8 0), .val (.int .u8 0), .val (.int .u8 0), .val (.int .u8 0), .val (.int .u8 0), .val (.int .u8 0), .val (.int .u8 0), .val (.int .u8 0), .val (.int .u8 0)]])), s.nx + 1) := ea_of ze_147 (by kernel_rfl) rfl rfl s ρ
theorem bs_147 : isByteSlice Tryd.prog 147 = false := by kernel_rfl
theorem is_147 : isStr Tryd.prog 147 = false := by kernel_rfl
theorem sz_22 : tySize Tryd.prog 22 = some 1 := by kernel_rfl
theorem ag_22 : tyAgg Tryd.prog 22 = some false := by kernel_rfl
theorem by_22 : tyBytes Tryd.prog 22 = some 24 := by kernel_rfl
theorem ze_22 : zeroOf Tryd.prog 22 = some (.slice none 0 0) := by kernel_rfl
theorem un_22 : Tryd.prog.underlying 22 = some (.slice 9) := by kernel_rfl
theorem el_22 : tyElem Tryd.prog 22 = some 9 := by kernel_rfl
theorem ix_22 {k : Bool} {es : List PV} {i : Int} (h0 : 0 ≤ i) (h1 : i < (es.length : Int)) : evIndexAddr Tryd.prog 22 (.lst k 1 es) i = some (.ptr k ((es[i.toNat]?).getD .dead) 0) := ix_lst un_22 sz_9 h0 h1
theorem ixr_22 {o j n : Nat} {i : Int} (h0 : 0 ≤ i) (h1 : i < (n : Int)) : evIndexAddr Tryd.prog 22 (.row o 1 j n) i = some (.own o 1 (j + i.toNat) 0) := ix_row un_22 sz_9 h0 h1
theorem sl_22 {k : Bool} {es : List PV} {lo hi : Option Int} (h0 : 0 ≤ lo.getD 0) (h1 : lo.getD 0 ≤ hi.getD es.length) (h2 : hi.getD es.length ≤ es.length) : evSlice Tryd.prog 22 (.lst k 1 es) lo hi = some (.lst k 1 ((es.drop (lo.getD 0).toNat).take ((hi.getD es.length).toNat - (lo.getD 0).toNat))) := sl_lst un_22 sz_9 h0 h1 h2
theorem slr_22 {o i n : Nat} {lo hi : Option Int} (h0 : 0 ≤ lo.getD 0) (h1 : lo.getD 0 < hi.getD n) (h2 : hi.getD n ≤ n) : evSlice Tryd.prog 22 (.row o 1 i n) lo hi = some (.row o 1 (i + (lo.getD 0).toNat) ((hi.getD n).toNat - (lo.getD 0).toNat)) := sl_rowlt un_22 sz_9 h0 h1 h2
theorem sle_22 {o i n : Nat} {lo hi : Option Int} (h0 : 0 ≤ lo.getD 0) (h1 : lo.getD 0 = hi.getD n) (h2 : hi.getD n ≤ n) : evSlice Tryd.prog 22 (.row o 1 i n) lo hi = some (.lst true 1 []) := sl_roweq un_22 sz_9 h0 h1 h2
theorem lpl_22 {ty sz : Nat} {k : Bool} {es : List PV} : lenP Tryd.prog 22 ty (.lst k sz es) = some (.val (.int .i64 es.length)) := lp_lst el_22
theorem lpr_22 {ty o sz i n : Nat} : lenP Tryd.prog 22 ty (.row o sz i n) = some (.val (.int .i64 n)) := lp_row el_22
theorem lpn_22 {ty : Nat} : lenP Tryd.prog 22 ty (.val (.slice none 0 0)) = some (.val (.int .i64 0)) := lp_nil un_22
theorem oz_22 : ofVal (.slice none 0 0) = .val (.slice none 0 0) := rfl
theorem ea_22 {Γ : Ctx} (s : AS) (ρ : Operand → PV) : evEff Tryd.prog Γ s ρ (.alloc 22) = some (.own s.nx 1 0 0, upd s.ob s.nx (some (22, 1, [.val (.slice none 0 0)])), s.nx + 1) := ea_of ze_22 (by kernel_rfl) rfl rfl s ρ
theorem em_22 {Γ : Ctx} (s : AS) (ρ : Operand → PV) (l c : Operand) : evEff Tryd.prog Γ s ρ (.makeSlice 22 l c) = mkEv 9 1 16 (.string ByteArray.empty) s (ρ l) (ρ c) := em_of el_22 ze_9 sz_9 by_9 (by kernel_rfl) rfl s ρ l c
theorem eap_22 {Γ : Ctx} (s : AS) (ρ : Operand → PV) (x y : Operand) : evEff Tryd.prog Γ s ρ (.call { callee := .builtin .append, args := #[x, y], argTypes := #[22, 22] }) = apEv 9 1 16 s.nx s.ob (ρ x) (obOf s.ob (ρ x)) (sliceEs s.ob 1 (ρ y)) := eap_of el_22 ze_9 sz_9 by_9 (by decide) rfl s ρ x y
theorem ecp_22 {Γ : Ctx} (s : AS) (ρ : Operand → PV) (x y : Operand) (t' : Nat) : evEff Tryd.prog Γ s ρ (.call { callee := .builtin .copy, args := #[x, y], argTypes := #[22, t'] }) = cpX 1 s.nx s.ob (ρ x) (obOf s.ob (ρ x)) (srcEs s.ob 1 (ρ y)) := ecp_of el_22 sz_9 s ρ x y t'
theorem bs_22 : isByteSlice Tryd.prog 22 = false := by kernel_rfl
theorem is_22 : isStr Tryd.prog 22 = false := by kernel_rfl
theorem sz_27 : tySize Tryd.prog 27 = some 1 := by kernel_rfl
theorem ag_27 : tyAgg Tryd.prog 27 = some false := by kernel_rfl
theorem by_27 : tyBytes Tryd.prog 27 = some 24 := by kernel_rfl
theorem ze_27 : zeroOf Tryd.prog 27 = some (.slice none 0 0) := by kernel_rfl
theorem un_27 : Tryd.prog.underlying 27 = some (.slice 5) := by kernel_rfl
theorem el_27 : tyElem Tryd.prog 27 = some 5 := by kernel_rfl
theorem ix_27 {k : Bool} {es : List PV} {i : Int} (h0 : 0 ≤ i) (h1 : i < (es.length : Int)) : evIndexAddr Tryd.prog 27 (.lst k 1 es) i = some (.ptr k ((es[i.toNat]?).getD .dead) 0) := ix_lst un_27 sz_5 h0 h1
theorem ixr_27 {o j n : Nat} {i : Int} (h0 : 0 ≤ i) (h1 : i < (n : Int)) : evIndexAddr Tryd.prog 27 (.row o 1 j n) i = some (.own o 1 (j + i.toNat) 0) := ix_row un_27 sz_5 h0 h1
theorem sl_27 {k : Bool} {es : List PV} {lo hi : Option Int} (h0 : 0 ≤ lo.getD 0) (h1 : lo.getD 0 ≤ hi.getD es.length) (h2 : hi.getD es.length ≤ es.length) : evSlice Tryd.prog 27 (.lst k 1 es) lo hi = some (.lst k 1 ((es.drop (lo.getD 0).toNat).take ((hi.getD es.length).toNat - (lo.getD 0).toNat))) := sl_lst un_27 sz_5 h0 h1 h2
theorem slr_27 {o i n : Nat} {lo hi : Option Int} (h0 : 0 ≤ lo.getD 0) (h1 : lo.getD 0 < hi.getD n) (h2 : hi.getD n ≤ n) : evSlice Tryd.prog 27 (.row o 1 i n) lo hi = some (.row o 1 (i + (lo.getD 0).toNat) ((hi.getD n).toNat - (lo.getD 0).toNat)) := sl_rowlt un_27 sz_5 h0 h1 h2
theorem sle_27 {o i n : Nat} {lo hi : Option Int} (h0 : 0 ≤ lo.getD 0) (h1 : lo.getD 0 = hi.getD n) (h2 : hi.getD n ≤ n) : evSlice Tryd.prog 27 (.row o 1 i n) lo hi = some (.lst true 1 []) := sl_roweq un_27 sz_5 h0 h1 h2
theorem lpl_27 {ty sz : Nat} {k : Bool} {es : List PV} : lenP Tryd.prog 27 ty (.lst k sz es) = some (.val (.int .i64 es.length)) := lp_lst el_27
theorem lpr_27 {ty o sz i n : Nat} : lenP Tryd.prog 27 ty (.row o sz i n) = some (.val (.int .i64 n)) := lp_row el_27
theorem lpn_27 {ty : Nat} : lenP Tryd.prog 27 ty (.val (.slice none 0 0)) = some (.val (.int .i64 0)) := lp_nil un_27
theorem oz_27 : ofVal (.slice none 0 0) = .val (.slice none 0 0) := rfl
theorem ea_27 {Γ : Ctx} (s : AS) (ρ : Operand → PV) : evEff Tryd.prog Γ s ρ (.alloc 27) = some (.own s.nx 1 0 0, upd s.ob s.nx (some (27, 1, [.val (.slice none 0 0)])), s.nx + 1) := ea_of ze_27 (by kernel_rfl) rfl rfl s ρ
theorem em_27 {Γ : Ctx} (s : AS) (ρ : Operand → PV) (l c : Operand) : evEff Tryd.prog Γ s ρ (.makeSlice 27 l c) = mkEv 5 1 1 (.int .u8 0) s (ρ l) (ρ c) := em_of el_27 ze_5 sz_5 by_5 (by kernel_rfl) rfl s ρ l c
theorem eap_27 {Γ : Ctx} (s : AS) (ρ : Operand → PV) (x y : Operand) : evEff Tryd.prog Γ s ρ (.call { callee := .builtin .append, args := #[x, y], argTypes := #[27, 27] }) = apEv 5 1 1 s.nx s.ob (ρ x) (obOf s.ob (ρ x)) (sliceEs s.ob 1 (ρ y)) := eap_of el_27 ze_5 sz_5 by_5 (by decide) rfl s ρ x y
theorem ecp_27 {Γ : Ctx} (s : AS) (ρ : Operand → PV) (x y : Operand) (t' : Nat) : evEff Tryd.prog Γ s ρ (.call { callee := .builtin .copy, args := #[x, y], argTypes := #[27, t'] }) = cpX 1 s.nx s.ob (ρ x) (obOf s.ob (ρ x)) (srcEs s.ob 1 (ρ y)) := ecp_of el_27 sz_5 s ρ x y t'
theorem bs_27 : isByteSlice Tryd.prog 27 = true := by kernel_rfl
theorem is_27 : isStr Tryd.prog 27 = false := by kernel_rfl
theorem sz_74 : tySize Tryd.prog 74 = some 1 := by kernel_rfl
theorem ag_74 : tyAgg Tryd.prog 74 = some false := by kernel_rfl
theorem by_74 : tyBytes Tryd.prog 74 = some 24 := by kernel_rfl
theorem ze_74 : zeroOf Tryd.prog 74 = some (.slice none 0 0) := by kernel_rfl
theorem un_74 : Tryd.prog.underlying 74 = some (.slice 3) := by kernel_rfl
theorem el_74 : tyElem Tryd.prog 74 = some 3 := by kernel_rfl
theorem ix_74 {k : Bool} {es : List PV} {i : Int} (h0 : 0 ≤ i) (h1 : i < (es.length : Int)) : evIndexAddr Tryd.prog 74 (.lst k 1 es) i = some (.ptr k ((es[i.toNat]?).getD .dead) 0) := ix_lst un_74 sz_3 h0 h1
theorem ixr_74 {o j n : Nat} {i : Int} (h0 : 0 ≤ i) (h1 : i < (n : Int)) : evIndexAddr Tryd.prog 74 (.row o 1 j n) i = some (.own o 1 (j + i.toNat) 0) := ix_row un_74 sz_3 h0 h1
theorem sl_74 {k : Bool} {es : List PV} {lo hi : Option Int} (h0 : 0 ≤ lo.getD 0) (h1 : lo.getD 0 ≤ hi.getD es.length) (h2 : hi.getD es.length ≤ es.length) : evSlice Tryd.prog 74 (.lst k 1 es) lo hi = some (.lst k 1 ((es.drop (lo.getD 0).toNat).take ((hi.getD es.length).toNat - (lo.getD 0).toNat))) := sl_lst un_74 sz_3 h0 h1 h2
theorem slr_74 {o i n : Nat} {lo hi : Option Int} (h0 : 0 ≤ lo.getD 0) (h1 : lo.getD 0 < hi.getD n) (h2 : hi.getD n ≤ n) : evSlice Tryd.prog 74 (.row o 1 i n) lo hi = some (.row o 1 (i + (lo.getD 0).toNat) ((hi.getD n).toNat - (lo.getD 0).toNat)) := sl_rowlt un_74 sz_3 h0 h1 h2
theorem sle_74 {o i n : Nat} {lo hi : Option Int} (h0 : 0 ≤ lo.getD 0) (h1 : lo.getD 0 = hi.getD n) (h2 : hi.getD n ≤ n) : evSlice Tryd.prog 74 (.row o 1 i n) lo hi = some (.lst true 1 []) := sl_roweq un_74 sz_3 h0 h1 h2
theorem lpl_74 {ty sz : Nat} {k : Bool} {es : List PV} : lenP Tryd.prog 74 ty (.lst k sz es) = some (.val (.int .i64 es.length)) := lp_lst el_74
theorem lpr_74 {ty o sz i n : Nat} : lenP Tryd.prog 74 ty (.row o sz i n) = some (.val (.int .i64 n)) := lp_row el_74
theorem lpn_74 {ty : Nat} : lenP Tryd.prog 74 ty (.val (.slice none 0 0)) = some (.val (.int .i64 0)) := lp_nil un_74
theorem oz_74 : ofVal (.slice none 0 0) = .val (.slice none 0 0) := rfl
theorem ea_74 {Γ : Ctx} (s : AS) (ρ : Operand → PV) : evEff Tryd.prog Γ s ρ (.alloc 74) = some (.own s.nx 1 0 0, upd s.ob s.nx (some (74, 1, [.val (.slice none 0 0)])), s.nx + 1) := ea_of ze_74 (by kernel_rfl) rfl rfl s ρ
theorem em_74 {Γ : Ctx} (s : AS) (ρ : Operand → PV) (l c : Operand) : evEff Tryd.prog Γ s ρ (.makeSlice 74 l c) = mkEv 3 1 8 (.int .i64 0) s (ρ l) (ρ c) := em_of el_74 ze_3 sz_3 by_3 (by kernel_rfl) rfl s ρ l c
theorem eap_74 {Γ : Ctx} (s : AS) (ρ : Operand → PV) (x y : Operand) : evEff Tryd.prog Γ s ρ (.call { callee := .builtin .append, args := #[x, y], argTypes := #[74, 74] }) = apEv 3 1 8 s.nx s.ob (ρ x) (obOf s.ob (ρ x)) (sliceEs s.ob 1 (ρ y)) := eap_of el_74 ze_3 sz_3 by_3 (by decide) rfl s ρ x y
theorem ecp_74 {Γ : Ctx} (s : AS) (ρ : Operand → PV) (x y : Operand) (t' : Nat) : evEff Tryd.prog Γ s ρ (.call { callee := .builtin .copy, args := #[x, y], argTypes := #[74, t'] }) = cpX 1 s.nx s.ob (ρ x) (obOf s.ob (ρ x)) (srcEs s.ob 1 (ρ y)) := ecp_of el_74 sz_3 s ρ x y t'
theorem bs_74 : isByteSlice Tryd.prog 74 = false := by kernel_rfl
theorem is_74 : isStr Tryd.prog 74 = false := by kernel_rfl
theorem cvi_2_2 {k : IntKind} {n : Int} {es : Option (List PV)} : convP Tryd.prog 2 2 false es (some (.int k n)) = some (.val (.int .i64 (IntKind.i64.wrap n))) := cv_int un_2 un_2
theorem cvi_2_3 {k : IntKind} {n : Int} {es : Option (List PV)} : convP Tryd.prog 2 3 false es (some (.int k n)) = some (.val (.int .i64 (IntKind.i64.wrap n))) := cv_int un_2 un_3
theorem cvi_2_5 {k : IntKind} {n : Int} {es : Option (List PV)} : convP Tryd.prog 2 5 false es (some (.int k n)) = some (.val (.int .u8 (IntKind.u8.wrap n))) := cv_int un_2 un_5
theorem cvi_2_12 {k : IntKind} {n : Int} {es : Option (List PV)} : convP Tryd.prog 2 12 false es (some (.int k n)) = some (.val (.int .u64 (IntKind.u64.wrap n))) := cv_int un_2 un_12
theorem cvi_2_21 {k : IntKind} {n : Int} {es : Option (List PV)} : convP Tryd.prog 2 21 false es (some (.int k n)) = some (.val (.int .i32 (IntKind.i32.wrap n))) := cv_int un_2 un_21
theorem cvi_2_102 {k : IntKind} {n : Int} {es : Option (List PV)} : convP Tryd.prog 2 102 false es (some (.int k n)) = some (.val (.int .u64 (IntKind.u64.wrap n))) := cv_int un_2 un_102
theorem cvi_2_120 {k : IntKind} {n : Int} {es : Option (List PV)} : convP Tryd.prog 2 120 false es (some (.int k n)) = some (.val (.int .u32 (IntKind.u32.wrap n))) := cv_int un_2 un_120
theorem cvi_2_123 {k : IntKind} {n : Int} {es : Option (List PV)} : convP Tryd.prog 2 123 false es (some (.int k n)) = some (.val (.int .u64 (IntKind.u64.wrap n))) := cv_int un_2 un_123
theorem cvi_3_2 {k : IntKind} {n : Int} {es : Option (List PV)} : convP Tryd.prog 3 2 false es (some (.int k n)) = some (.val (.int .i64 (IntKind.i64.wrap n))) := cv_int un_3 un_2
theorem cvi_3_3 {k : IntKind} {n : Int} {es : Option (List PV)} : convP Tryd.prog 3 3 false es (some (.int k n)) = some (.val (.int .i64 (IntKind.i64.wrap n))) := cv_int un_3 un_3
theorem cvi_3_5 {k : IntKind} {n : Int} {es : Option (List PV)} : convP Tryd.prog 3 5 false es (some (.int k n)) = some (.val (.int .u8 (IntKind.u8.wrap n))) := cv_int un_3 un_5
theorem cvi_3_12 {k : IntKind} {n : Int} {es : Option (List PV)} : convP Tryd.prog 3 12 false es (some (.int k n)) = some (.val (.int .u64 (IntKind.u64.wrap n))) := cv_int un_3 un_12
theorem cvi_3_21 {k : IntKind} {n : Int} {es : Option (List PV)} : convP Tryd.prog 3 21 false es (some (.int k n)) = some (.val (.int .i32 (IntKind.i32.wrap n))) := cv_int un_3 un_21
theorem cvi_3_102 {k : IntKind} {n : Int} {es : Option (List PV)} : convP Tryd.prog 3 102 false es (some (.int k n)) = some (.val (.int .u64 (IntKind.u64.wrap n))) := cv_int un_3 un_102
theorem cvi_3_120 {k : IntKind} {n : Int} {es : Option (List PV)} : convP Tryd.prog 3 120 false es (some (.int k n)) = some (.val (.int .u32 (IntKind.u32.wrap n))) := cv_int un_3 un_120
theorem cvi_3_123 {k : IntKind} {n : Int} {es : Option (List PV)} : convP Tryd.prog 3 123 false es (some (.int k n)) = some (.val (.int .u64 (IntKind.u64.wrap n))) := cv_int un_3 un_123
theorem cvi_5_2 {k : IntKind} {n : Int} {es : Option (List PV)} : convP Tryd.prog 5 2 false es (some (.int k n)) = some (.val (.int .i64 (IntKind.i64.wrap n))) := cv_int un_5 un_2
theorem cvi_5_3 {k : IntKind} {n : Int} {es : Option (List PV)} : convP Tryd.prog 5 3 false es (some (.int k n)) = some (.val (.int .i64 (IntKind.i64.wrap n))) := cv_int un_5 un_3
theorem cvi_5_5 {k : IntKind} {n : Int} {es : Option (List PV)} : convP Tryd.prog 5 5 false es (some (.int k n)) = some (.val (.int .u8 (IntKind.u8.wrap n))) := cv_int un_5 un_5
theorem cvi_5_12 {k : IntKind} {n : Int} {es : Option (List PV)} : convP Tryd.prog 5 12 false es (some (.int k n)) = some (.val (.int .u64 (IntKind.u64.wrap n))) := cv_int un_5 un_12
theorem cvi_5_21 {k : IntKind} {n : Int} {es : Option (List PV)} : convP Tryd.prog 5 21 false es (some (.int k n)) = some (.val (.int .i32 (IntKind.i32.wrap n))) := cv_int un_5 un_21
theorem cvi_5_102 {k : IntKind} {n : Int} {es : Option (List PV)} : convP Tryd.prog 5 102 false es (some (.int k n)) = some (.val (.int .u64 (IntKind.u64.wrap n))) := cv_int un_5 un_102
theorem cvi_5_120 {k : IntKind} {n : Int} {es : Option (List PV)} : convP Tryd.prog 5 120 false es (some (.int k n)) = some (.val (.int .u32 (IntKind.u32.wrap n))) := cv_int un_5 un_120
theorem cvi_5_123 {k : IntKind} {n : Int} {es : Option (List PV)} : convP Tryd.prog 5 123 false es (some (.int k n)) = some (.val (.int .u64 (IntKind.u64.wrap n))) := cv_int un_5 un_123
theorem cvi_12_2 {k : IntKind} {n : Int} {es : Option (List PV)} : convP Tryd.prog 12 2 false es (some (.int k n)) = some (.val (.int .i64 (IntKind.i64.wrap n))) := cv_int un_12 un_2
theorem cvi_12_3 {k : IntKind} {n : Int} {es : Option (List PV)} : convP Tryd.prog 12 3 false es (some (.int k n)) = some (.val (.int .i64 (IntKind.i64.wrap n))) := cv_int un_12 un_3
theorem cvi_12_5 {k : IntKind} {n : Int} {es : Option (List PV)} : convP Tryd.prog 12 5 false es (some (.int k n)) = some (.val (.int .u8 (IntKind.u8.wrap n))) := cv_int un_12 un_5
theorem cvi_12_12 {k : IntKind} {n : Int} {es : Option (List PV)} : convP Tryd.prog 12 12 false es (some (.int k n)) = some (.val (.int .u64 (IntKind.u64.wrap n))) := cv_int un_12 un_12
theorem cvi_12_21 {k : IntKind} {n : Int} {es : Option (List PV)} : convP Tryd.prog 12 21 false es (some (.int k n)) = some (.val (.int .i32 (IntKind.i32.wrap n))) := cv_int un_12 un_21
theorem cvi_12_102 {k : IntKind} {n : Int} {es : Option (List PV)} : convP Tryd.prog 12 102 false es (some (.int k n)) = some (.val (.int .u64 (IntKind.u64.wrap n))) := cv_int un_12 un_102
theorem cvi_12_120 {k : IntKind} {n : Int} {es : Option (List PV)} : convP Tryd.prog 12 120 false es (some (.int k n)) = some (.val (.int .u32 (IntKind.u32.wrap n))) := cv_int un_12 un_120
theorem cvi_12_123 {k : IntKind} {n : Int} {es : Option (List PV)} : convP Tryd.prog 12 123 false es (some (.int k n)) = some (.val (.int .u64 (IntKind.u64.wrap n))) := cv_int un_12 un_123
theorem cvi_21_2 {k : IntKind} {n : Int} {es : Option (List PV)} : convP Tryd.prog 21 2 false es (some (.int k n)) = some (.val (.int .i64 (IntKind.i64.wrap n))) := cv_int un_21 un_2
theorem cvi_21_3 {k : IntKind} {n : Int} {es : Option (List PV)} : convP Tryd.prog 21 3 false es (some (.int k n)) = some (.val (.int .i64 (IntKind.i64.wrap n))) := cv_int un_21 un_3
theorem cvi_21_5 {k : IntKind} {n : Int} {es : Option (List PV)} : convP Tryd.prog 21 5 false es (some (.int k n)) = some (.val (.int .u8 (IntKind.u8.wrap n))) := cv_int un_21 un_5
theorem cvi_21_12 {k : IntKind} {n : Int} {es : Option (List PV)} : convP Tryd.prog 21 12 false es (some (.int k n)) = some (.val (.int .u64 (IntKind.u64.wrap n))) := cv_int un_21 un_12
theorem cvi_21_21 {k : IntKind} {n : Int} {es : Option (List PV)} : convP Tryd.prog 21 21 false es (some (.int k n)) = some (.val (.int .i32 (IntKind.i32.wrap n))) := cv_int un_21 un_21
theorem cvi_21_102 {k : IntKind} {n : Int} {es : Option (List PV)} : convP Tryd.prog 21 102 false es (some (.int k n)) = some (.val (.int .u64 (IntKind.u64.wrap n))) := cv_int un_21 un_102
theorem cvi_21_120 {k : IntKind} {n : Int} {es : Option (List PV)} : convP Tryd.prog 21 120 false es (some (.int k n)) = some (.val (.int .u32 (IntKind.u32.wrap n))) := cv_int un_21 un_120
theorem cvi_21_123 {k : IntKind} {n : Int} {es : Option (List PV)} : convP Tryd.prog 21 123 false es (some (.int k n)) = some (.val (.int .u64 (IntKind.u64.wrap n))) := cv_int un_21 un_123
theorem cvi_102_2 {k : IntKind} {n : Int} {es : Option (List PV)} : convP Tryd.prog 102 2 false es (some (.int k n)) = some (.val (.int .i64 (IntKind.i64.wrap n))) := cv_int un_102 un_2
theorem cvi_102_3 {k : IntKind} {n : Int} {es : Option (List PV)} : convP Tryd.prog 102 3 false es (some (.int k n)) = some (.val (.int .i64 (IntKind.i64.wrap n))) := cv_int un_102 un_3
theorem cvi_102_5 {k : IntKind} {n : Int} {es : Option (List PV)} : convP Tryd.prog 102 5 false es (some (.int k n)) = some (.val (.int .u8 (IntKind.u8.wrap n))) := cv_int un_102 un_5
theorem cvi_102_12 {k : IntKind} {n : Int} {es : Option (List PV)} : convP Tryd.prog 102 12 false es (some (.int k n)) = some (.val (.int .u64 (IntKind.u64.wrap n))) := cv_int un_102 un_12
theorem cvi_102_21 {k : IntKind} {n : Int} {es : Option (List PV)} : convP Tryd.prog 102 21 false es (some (.int k n)) = some (.val (.int .i32 (IntKind.i32.wrap n))) := cv_int un_102 un_21
theorem cvi_102_102 {k : IntKind} {n : Int} {es : Option (List PV)} : convP Tryd.prog 102 102 false es (some (.int k n)) = some (.val (.int .u64 (IntKind.u64.wrap n))) := cv_int un_102 un_102
theorem cvi_102_120 {k : IntKind} {n : Int} {es : Option (List PV)} : convP Tryd.prog 102 120 false es (some (.int k n)) = some (.val (.int .u32 (IntKind.u32.wrap n))) := cv_int un_102 un_120
theorem cvi_102_123 {k : IntKind} {n : Int} {es : Option (List PV)} : convP Tryd.prog 102 123 false es (some (.int k n)) = some (.val (.int .u64 (IntKind.u64.wrap n))) := cv_int un_102 un_123
theorem cvi_120_2 {k : IntKind} {n : Int} {es : Option (List PV)} : convP Tryd.prog 120 2 false es (some (.int k n)) = some (.val (.int .i64 (IntKind.i64.wrap n))) := cv_int un_120 un_2
theorem cvi_120_3 {k : IntKind} {n : Int} {es : Option (List PV)} : convP Tryd.prog 120 3 false es (some (.int k n)) = some (.val (.int .i64 (IntKind.i64.wrap n))) := cv_int un_120 un_3
theorem cvi_120_5 {k : IntKind} {n : Int} {es : Option (List PV)} : convP Tryd.prog 120 5 false es (some (.int k n)) = some (.val (.int .u8 (IntKind.u8.wrap n))) := cv_int un_120 un_5
theorem cvi_120_12 {k : IntKind} {n : Int} {es : Option (List PV)} : convP Tryd.prog 120 12 false es (some (.int k n)) = some (.val (.int .u64 (IntKind.u64.wrap n))) := cv_int un_120 un_12
theorem cvi_120_21 {k : IntKind} {n : Int} {es : Option (List PV)} : convP Tryd.prog 120 21 false es (some (.int k n)) = some (.val (.int .i32 (IntKind.i32.wrap n))) := cv_int un_120 un_21
theorem cvi_120_102 {k : IntKind} {n : Int} {es : Option (List PV)} : convP Tryd.prog 120 102 false es (some (.int k n)) = some (.val (.int .u64 (IntKind.u64.wrap n))) := cv_int un_120 un_102
theorem cvi_120_120 {k : IntKind} {n : Int} {es : Option (List PV)} : convP Tryd.prog 120 120 false es (some (.int k n)) = some (.val (.int .u32 (IntKind.u32.wrap n))) := cv_int un_120 un_120
theorem cvi_120_123 {k : IntKind} {n : Int} {es : Option (List PV)} : convP Tryd.prog 120 123 false es (some (.int k n)) = some (.val (.int .u64 (IntKind.u64.wrap n))) := cv_int un_120 un_123
theorem cvi_123_2 {k : IntKind} {n : Int} {es : Option (List PV)} : convP Tryd.prog 123 2 false es (some (.int k n)) = some (.val (.int .i64 (IntKind.i64.wrap n))) := cv_int un_123 un_2
theorem cvi_123_3 {k : IntKind} {n : Int} {es : Option (List PV)} : convP Tryd.prog 123 3 false es (some (.int k n)) = some (.val (.int .i64 (IntKind.i64.wrap n))) := cv_int un_123 un_3
theorem cvi_123_5 {k : IntKind} {n : Int} {es : Option (List PV)} : convP Tryd.prog 123 5 false es (some (.int k n)) = some (.val (.int .u8 (IntKind.u8.wrap n))) := cv_int un_123 un_5
theorem cvi_123_12 {k : IntKind} {n : Int} {es : Option (List PV)} : convP Tryd.prog 123 12 false es (some (.int k n)) = some (.val (.int .u64 (IntKind.u64.wrap n))) := cv_int un_123 un_12
theorem cvi_123_21 {k : IntKind} {n : Int} {es : Option (List PV)} : convP Tryd.prog 123 21 false es (some (.int k n)) = some (.val (.int .i32 (IntKind.i32.wrap n))) := cv_int un_123 un_21
theorem cvi_123_102 {k : IntKind} {n : Int} {es : Option (List PV)} : convP Tryd.prog 123 102 false es (some (.int k n)) = some (.val (.int .u64 (IntKind.u64.wrap n))) := cv_int un_123 un_102
theorem cvi_123_120 {k : IntKind} {n : Int} {es : Option (List PV)} : convP Tryd.prog 123 120 false es (some (.int k n)) = some (.val (.int .u32 (IntKind.u32.wrap n))) := cv_int un_123 un_120
theorem cvi_123_123 {k : IntKind} {n : Int} {es : Option (List PV)} : convP Tryd.prog 123 123 false es (some (.int k n)) = some (.val (.int .u64 (IntKind.u64.wrap n))) := cv_int un_123 un_123
theorem rw_22_0 : rowEs Tryd.prog 22 0 [] = rowC 9 1 [] (true) := rw_of el_22 sz_9 ze_9 _ (by decide) (by decide) rfl
theorem rw_22_1 {a0 : PV} : rowEs Tryd.prog 22 1 [(0, a0)] = rowC 9 1 [a0] (okP 1 a0 && (true)) := rw_of el_22 sz_9 ze_9 _ (by decide) (by decide) rfl
theorem rw_22_4 {a0 a1 a2 a3 : PV} : rowEs Tryd.prog 22 4 [(0, a0), (1, a1), (2, a2), (3, a3)] = rowC 9 1 [a0, a1, a2, a3] (okP 1 a0 && (okP 1 a1 && (okP 1 a2 && (okP 1 a3 && (true))))) := rw_of el_22 sz_9 ze_9 _ (by decide) (by decide) rfl
theorem rw_22_5 {a0 a1 a2 a3 a4 : PV} : rowEs Tryd.prog 22 5 [(0, a0), (1, a1), (2, a2), (3, a3), (4, a4)] = rowC 9 1 [a0, a1, a2, a3, a4] (okP 1 a0 && (okP 1 a1 && (okP 1 a2 && (okP 1 a3 && (okP 1 a4 && (true)))))) := rw_of el_22 sz_9 ze_9 _ (by decide) (by decide) rfl
theorem rw_22_12 {a0 a1 a2 a3 a4 a5 a6 a7 a8 a9 a10 a11 : PV} : rowEs Tryd.prog 22 12 [(0, a0), (1, a1), (2, a2), (3, a3), (4, a4), (5, a5), (6, a6), (7, a7), (8, a8), (9, a9), (10, a10), (11, a11)] = rowC 9 1 [a0, a1, a2, a3, a4, a5, a6, a7, a8, a9, a10, a11] (okP 1 a0 && (okP 1 a1 && (okP 1 a2 && (okP 1 a3 && (okP 1 a4 && (okP 1 a5 && (okP 1 a6 && (okP 1 a7 && (okP 1 a8 && (okP 1 a9 && (okP 1 a10 && (okP 1 a11 && (true))))))))))))) := rw_of el_22 sz_9 ze_9 _ (by decide) (by decide) rfl
theorem rw_27_0 : rowEs Tryd.prog 27 0 [] = rowC 5 1 [] (true) := rw_of el_27 sz_5 ze_5 _ (by decide) (by decide) rfl
theorem rw_27_1 {a0 : PV} : rowEs Tryd.prog 27 1 [(0, a0)] = rowC 5 1 [a0] (okP 1 a0 && (true)) := rw_of el_27 sz_5 ze_5 _ (by decide) (by decide) rfl
theorem rw_27_3 {a0 a1 a2 : PV} : rowEs Tryd.prog 27 3 [(0, a0), (1, a1), (2, a2)] = rowC 5 1 [a0, a1, a2] (okP 1 a0 && (okP 1 a1 && (okP 1 a2 && (true)))) := rw_of el_27 sz_5 ze_5 _ (by decide) (by decide) rfl
theorem rw_74_0 : rowEs Tryd.prog 74 0 [] = rowC 3 1 [] (true) := rw_of el_74 sz_3 ze_3 _ (by decide) (by decide) rfl
theorem rw_74_1 {a0 : PV} : rowEs Tryd.prog 74 1 [(0, a0)] = rowC 3 1 [a0] (okP 1 a0 && (true)) := rw_of el_74 sz_3 ze_3 _ (by decide) (by decide) rfl
theorem rw_74_3 {a0 a1 a2 : PV} : rowEs Tryd.prog 74 3 [(0, a0), (1, a1), (2, a2)] = rowC 3 1 [a0, a1, a2] (okP 1 a0 && (okP 1 a1 && (okP 1 a2 && (true)))) := rw_of el_74 sz_3 ze_3 _ (by decide) (by decide) rfl
theorem rw_74_4 {a0 a1 a2 a3 : PV} : rowEs Tryd.prog 74 4 [(0, a0), (1, a1), (2, a2), (3, a3)] = rowC 3 1 [a0, a1, a2, a3] (okP 1 a0 && (okP 1 a1 && (okP 1 a2 && (okP 1 a3 && (true))))) := rw_of el_74 sz_3 ze_3 _ (by decide) (by decide) rfl
theorem rw_74_6 {a0 a1 a2 a3 a4 a5 : PV} : rowEs Tryd.prog 74 6 [(0, a0), (1, a1), (2, a2), (3, a3), (4, a4), (5, a5)] = rowC 3 1 [a0, a1, a2, a3, a4, a5] (okP 1 a0 && (okP 1 a1 && (okP 1 a2 && (okP 1 a3 && (okP 1 a4 && (okP 1 a5 && (true))))))) := rw_of el_74 sz_3 ze_3 _ (by decide) (by decide) rfl
theorem rw_74_7 {a0 a1 a2 a3 a4 a5 a6 : PV} : rowEs Tryd.prog 74 7 [(0, a0), (1, a1), (2, a2), (3, a3), (4, a4), (5, a5), (6, a6)] = rowC 3 1 [a0, a1, a2, a3, a4, a5, a6] (okP 1 a0 && (okP 1 a1 && (okP 1 a2 && (okP 1 a3 && (okP 1 a4 && (okP 1 a5 && (okP 1 a6 && (true)))))))) := rw_of el_74 sz_3 ze_3 _ (by decide) (by decide) rfl
theorem mixed : Tryd.prog.follows .mixedOrders = true := by kernel_rfl
attribute [push_cast high]
  bz_7
  bz_13
  bz_28
  bz_29
  bz_32
  bz_79
  bz_80
  bz_100
  bz_101
  bz_141
  bz_142
attribute [push_cast]
  sz_2
  ag_2
  by_2
  ze_2
  un_2
  oz_2
  ea_2
  bs_2
  is_2
  sz_3
  ag_3
  by_3
  ze_3
  un_3
  oz_3
  ea_3
  bs_3
  is_3
  sz_4
  ag_4
  by_4
  ze_4
  un_4
  bqe_4
  bqn_4
  oz_4
  ea_4
  bs_4
  is_4
  sz_5
  ag_5
  by_5
  ze_5
  un_5
  oz_5
  ea_5
  bs_5
  is_5
  sz_7
  ag_7
  by_7
  ze_7
  fo_7_0
  fo_7_1
  fo_7_2
  fo_7_3
  pl_7
  bl_7
  oz_7
  ea_7
  bs_7
  is_7
  sz_9
  ag_9
  by_9
  ze_9
  un_9
  lps_9
  ixs_9
  oz_9
  ea_9
  bs_9
  is_9
  sz_12
  ag_12
  by_12
  ze_12
  un_12
  oz_12
  ea_12
  bs_12
  is_12
  sz_13
  ag_13
  by_13
  ze_13
  fo_13_0
  fo_13_1
  pl_13
  bl_13
  oz_13
  ea_13
  bs_13
  is_13
  sz_21
  ag_21
  by_21
  ze_21
  un_21
  oz_21
  ea_21
  bs_21
  is_21
  sz_28
  ag_28
  by_28
  ze_28
  fo_28_0
  fo_28_1
  pl_28
  bl_28
  oz_28
  ea_28
  bs_28
  is_28
  sz_29
  ag_29
  by_29
  ze_29
  fo_29_0
  fo_29_1
  pl_29
  bl_29
  oz_29
  ea_29
  bs_29
  is_29
  sz_32
  ag_32
  by_32
  ze_32
  fo_32_0
  fo_32_1
  pl_32
  bl_32
  oz_32
  ea_32
  bs_32
  is_32
  sz_79
  ag_79
  by_79
  ze_79
  fo_79_0
  fo_79_1
  fo_79_2
  fo_79_3
  pl_79
  bl_79
  oz_79
  ea_79
  bs_79
  is_79
  sz_80
  ag_80
  by_80
  ze_80
  fo_80_0
  fo_80_1
  fo_80_2
  fo_80_3
  pl_80
  bl_80
  oz_80
  ea_80
  sqeql_80
  sqneq_80
  bs_80
  is_80
  sz_100
  ag_100
  by_100
  ze_100
  fo_100_0
  fo_100_1
  pl_100
  bl_100
  oz_100
  ea_100
  bs_100
  is_100
  sz_101
  ag_101
  by_101
  ze_101
  fo_101_0
  fo_101_1
  pl_101
  bl_101
  oz_101
  ea_101
  bs_101
  is_101
  sz_102
  ag_102
  by_102
  ze_102
  un_102
  oz_102
  ea_102
  bs_102
  is_102
  sz_120
  ag_120
  by_120
  ze_120
  un_120
  oz_120
  ea_120
  bs_120
  is_120
  sz_123
  ag_123
  by_123
  ze_123
  un_123
  oz_123
  ea_123
  bs_123
  is_123
  sz_130
  ag_130
  by_130
  ze_130
  un_130
  oz_130
  ea_130
  bs_130
  is_130
  sz_137
  ag_137
  by_137
  ze_137
  un_137
  oz_137
  ea_137
  bs_137
  is_137
  sz_141
  ag_141
  by_141
  ze_141
  fo_141_0
  fo_141_1
  pl_141
  bl_141
  oz_141
  ea_141
  bs_141
  is_141
  sz_142
  ag_142
  by_142
  ze_142
  fo_142_0
  fo_142_1
  pl_142
  bl_142
  oz_142
  ea_142
  bs_142
  is_142
  sz_143
  ag_143
  by_143
  ze_143
  un_143
  oz_143
  ea_143
  bs_143
  is_143
  sz_146
  ag_146
  by_146
  ze_146
  un_146
  oz_146
  ea_146
  bs_146
  is_146
  sz_147
  ag_147
  by_147
  ze_147
  un_147
  oz_147
  ea_147
  bs_147
  is_147
  sz_22
  ag_22
  by_22
  ze_22
  un_22
  el_22
  ix_22
  ixr_22
  sl_22
  slr_22
  sle_22
  lpl_22
  lpr_22
  lpn_22
  oz_22
  ea_22
  em_22
  eap_22
  ecp_22
  bs_22
  is_22
  sz_27
  ag_27
  by_27
  ze_27
  un_27
  el_27
  ix_27
  ixr_27
  sl_27
  slr_27
  sle_27
  lpl_27
  lpr_27
  lpn_27
  oz_27
  ea_27
  em_27
  eap_27
  ecp_27
  bs_27
  is_27
  sz_74
  ag_74
  by_74
  ze_74
  un_74
  el_74
  ix_74
  ixr_74
  sl_74
  slr_74
  sle_74
  lpl_74
  lpr_74
  lpn_74
  oz_74
  ea_74
  em_74
  eap_74
  ecp_74
  bs_74
  is_74
  cvi_2_2
  cvi_2_3
  cvi_2_5
  cvi_2_12
  cvi_2_21
  cvi_2_102
  cvi_2_120
  cvi_2_123
  cvi_3_2
  cvi_3_3
  cvi_3_5
  cvi_3_12
  cvi_3_21
  cvi_3_102
  cvi_3_120
  cvi_3_123
  cvi_5_2
  cvi_5_3
  cvi_5_5
  cvi_5_12
  cvi_5_21
  cvi_5_102
  cvi_5_120
  cvi_5_123
  cvi_12_2
  cvi_12_3
  cvi_12_5
  cvi_12_12
  cvi_12_21
  cvi_12_102
  cvi_12_120
  cvi_12_123
  cvi_21_2
  cvi_21_3
  cvi_21_5
  cvi_21_12
  cvi_21_21
  cvi_21_102
  cvi_21_120
  cvi_21_123
  cvi_102_2
  cvi_102_3
  cvi_102_5
  cvi_102_12
  cvi_102_21
  cvi_102_102
  cvi_102_120
  cvi_102_123
  cvi_120_2
  cvi_120_3
  cvi_120_5
  cvi_120_12
  cvi_120_21
  cvi_120_102
  cvi_120_120
  cvi_120_123
  cvi_123_2
  cvi_123_3
  cvi_123_5
  cvi_123_12
  cvi_123_21
  cvi_123_102
  cvi_123_120
  cvi_123_123
  rw_22_0
  rw_22_1
  rw_22_4
  rw_22_5
  rw_22_12
  rw_27_0
  rw_27_1
  rw_27_3
  rw_74_0
  rw_74_1
  rw_74_3
  rw_74_4
  rw_74_6
  rw_74_7
end Go.Proofs.YtenldjifipnjpaaDoor
