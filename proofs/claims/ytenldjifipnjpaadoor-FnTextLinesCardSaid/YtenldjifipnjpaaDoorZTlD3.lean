/- What the proof rests on, part 3: contracts of functions. No condition beyond what each states. -/
import Derived.Test.YtenldjifipnjpaaDoorZTlD2
namespace Go.Proofs.YtenldjifipnjpaaDoor
open Go.RowKit
set_option linter.all false
theorem sz_2 : tySize Tryd.prog 2 = some 1 := by kernel_rfl
theorem ag_2 : tyAgg Tryd.prog 2 = some false := by kernel_rfl
theorem by_2 : tyBytes Tryd.prog 2 = some 8 := by kernel_rfl
theorem ze_2 : zeroOf Tryd.prog 2 = some (.int .i64 0) := by kernel_rfl
theorem un_2 : Tryd.prog.underlying 2 = some (.int .i64) := by kernel_rfl
theorem oz_2 : ofVal (.int .i64 0) = .val (.int .i64 0) := rfl
theorem ea_2 {Γ : Ctx} (s : AS) (ρ : Operand → PV) : evEff Tryd.prog Γ s ρ (.alloc 2) = some (.own s.nx 1 0 0, upd s.ob s.nx (some (2, 1, [.val (.int .i64 0)])), s.nx + 1) := ea_of ze_2 (by kernel_rfl) rfl rfl s ρ
theorem bs_2 : isByteSlice Tryd.prog 2 = false := by kernel_rfl
theorem is_2 : isStr Tryd.prog 2 = false := by kernel_rfl
theorem sz_3 : tySize Tryd.prog 3 = some 1 := by kernel_rfl
theorem ag_3 : tyAgg Tryd.prog 3 = some false := by kernel_rfl
theorem by_3 : tyBytes Tryd.prog 3 = some 8 := by kernel_rfl
theorem ze_3 : zeroOf Tryd.prog 3 = some (.int .i64 0) := by kernel_rfl
theorem un_3 : Tryd.prog.underlying 3 = some (.int .i64) := by kernel_rfl
theorem oz_3 : ofVal (.int .i64 0) = .val (.int .i64 0) := rfl
theorem ea_3 {Γ : Ctx} (s : AS) (ρ : Operand → PV) : evEff Tryd.prog Γ s ρ (.alloc 3) = some (.own s.nx 1 0 0, upd s.ob s.nx (some (3, 1, [.val (.int .i64 0)])), s.nx + 1) := ea_of ze_3 (by kernel_rfl) rfl rfl s ρ
theorem bs_3 : isByteSlice Tryd.prog 3 = false := by kernel_rfl
theorem is_3 : isStr Tryd.prog 3 = false := by kernel_rfl
theorem sz_4 : tySize Tryd.prog 4 = some 1 := by kernel_rfl
theorem ag_4 : tyAgg Tryd.prog 4 = some false := by kernel_rfl
theorem by_4 : tyBytes Tryd.prog 4 = some 1 := by kernel_rfl
theorem ze_4 : zeroOf Tryd.prog 4 = some (.bool false) := by kernel_rfl
theorem un_4 : Tryd.prog.underlying 4 = some .bool := by kernel_rfl
theorem bqe_4 {x y : Operand} {a b : Bool} : binP Tryd.prog .eql 4 x y (some (.bool a)) (some (.bool b)) = some (.val (.bool (a == b))) := bp_eqlB un_4
theorem bqn_4 {x y : Operand} {a b : Bool} : binP Tryd.prog .neq 4 x y (some (.bool a)) (some (.bool b)) = some (.val (.bool (!(a == b)))) := bp_neqB un_4
theorem oz_4 : ofVal (.bool false) = .val (.bool false) := rfl
theorem ea_4 {Γ : Ctx} (s : AS) (ρ : Operand → PV) : evEff Tryd.prog Γ s ρ (.alloc 4) = some (.own s.nx 1 0 0, upd s.ob s.nx (some (4, 1, [.val (.bool false)])), s.nx + 1) := ea_of ze_4 (by kernel_rfl) rfl rfl s ρ
theorem bs_4 : isByteSlice Tryd.prog 4 = false := by kernel_rfl
theorem is_4 : isStr Tryd.prog 4 = false := by kernel_rfl
theorem sz_5 : tySize Tryd.prog 5 = some 1 := by kernel_rfl
theorem ag_5 : tyAgg Tryd.prog 5 = some false := by kernel_rfl
theorem by_5 : tyBytes Tryd.prog 5 = some 1 := by kernel_rfl
theorem ze_5 : zeroOf Tryd.prog 5 = some (.int .u8 0) := by kernel_rfl
theorem un_5 : Tryd.prog.underlying 5 = some (.int .u8) := by kernel_rfl
theorem oz_5 : ofVal (.int .u8 0) = .val (.int .u8 0) := rfl
theorem ea_5 {Γ : Ctx} (s : AS) (ρ : Operand → PV) : evEff Tryd.prog Γ s ρ (.alloc 5) = some (.own s.nx 1 0 0, upd s.ob s.nx (some (5, 1, [.val (.int .u8 0)])), s.nx + 1) := ea_of ze_5 (by kernel_rfl) rfl rfl s ρ
theorem bs_5 : isByteSlice Tryd.prog 5 = false := by kernel_rfl
theorem is_5 : isStr Tryd.prog 5 = false := by kernel_rfl
theorem sz_7 : tySize Tryd.prog 7 = some 4 := by kernel_rfl
theorem ag_7 : tyAgg Tryd.prog 7 = some true := by kernel_rfl
theorem by_7 : tyBytes Tryd.prog 7 = some 24 := by kernel_rfl
theorem ze_7 : zeroOf Tryd.prog 7 = some (.agg #[.int .i64 0, .int .i64 0, .bool false, .int .u8 0]) := by kernel_rfl
theorem fo_7_0 : fieldOff Tryd.prog 7 0 = some 0 := by kernel_rfl
theorem fo_7_1 : fieldOff Tryd.prog 7 1 = some 1 := by kernel_rfl
theorem fo_7_2 : fieldOff Tryd.prog 7 2 = some 2 := by kernel_rfl
theorem fo_7_3 : fieldOff Tryd.prog 7 3 = some 3 := by kernel_rfl
theorem pl_7 : structPlaces Tryd.prog 7 = some #[(0, 1), (1, 1), (2, 1), (3, 1)] := by kernel_rfl
theorem bl_7 (ps : List (Nat × PV)) : evBuild Tryd.prog 7 ps = (fillP (plF [(0, 1), (1, 1), (2, 1), (3, 1)]) [.val (.int .i64 0), .val (.int .i64 0), .val (.bool false), .val (.int .u8 0)] ps).map .agg := bl_of ze_7 rfl pl_7 ps
theorem oz_7 : ofVal (.agg #[.int .i64 0, .int .i64 0, .bool false, .int .u8 0]) = .agg [.val (.int .i64 0), .val (.int .i64 0), .val (.bool false), .val (.int .u8 0)] := rfl
theorem ea_7 {Γ : Ctx} (s : AS) (ρ : Operand → PV) : evEff Tryd.prog Γ s ρ (.alloc 7) = some (.own s.nx 4 0 0, upd s.ob s.nx (some (7, 4, [.agg [.val (.int .i64 0), .val (.int .i64 0), .val (.bool false), .val (.int .u8 0)]])), s.nx + 1) := ea_of ze_7 (by kernel_rfl) rfl rfl s ρ
theorem bz_7 {Γ : Ctx} {ob : Objs} {ρ : Operand → PV} {ty : Nat} : evVal Tryd.prog Γ ob ρ ty (.build 7 #[]) = some (.agg [.val (.int .i64 0), .val (.int .i64 0), .val (.bool false), .val (.int .u8 0)]) := (show evBuild Tryd.prog 7 [] = some (.agg [.val (.int .i64 0), .val (.int .i64 0), .val (.bool false), .val (.int .u8 0)]) from by kernel_rfl)
theorem bs_7 : isByteSlice Tryd.prog 7 = false := by kernel_rfl
theorem is_7 : isStr Tryd.prog 7 = false := by kernel_rfl
theorem sz_9 : tySize Tryd.prog 9 = some 1 := by kernel_rfl
theorem ag_9 : tyAgg Tryd.prog 9 = some false := by kernel_rfl
theorem by_9 : tyBytes Tryd.prog 9 = some 16 := by kernel_rfl
theorem ze_9 : zeroOf Tryd.prog 9 = some (.string ByteArray.empty) := by kernel_rfl
theorem un_9 : Tryd.prog.underlying 9 = some .string := by kernel_rfl
theorem lps_9 {ty : Nat} {s : ByteArray} : lenP Tryd.prog 9 ty (.val (.string s)) = some (.val (.int .i64 s.size)) := lp_str un_9
theorem ixs_9 {s : ByteArray} {i : Int} (h0 : 0 ≤ i) (h1 : i < s.size) : idxP Tryd.prog 9 (some (.string s)) (some (.int .i64 i)) = some (.val (.int .u8 (at8 s i.toNat))) := ix_str un_9 h0 h1
theorem oz_9 : ofVal (.string ByteArray.empty) = .val (.string ByteArray.empty) := rfl
theorem ea_9 {Γ : Ctx} (s : AS) (ρ : Operand → PV) : evEff Tryd.prog Γ s ρ (.alloc 9) = some (.own s.nx 1 0 0, upd s.ob s.nx (some (9, 1, [.val (.string ByteArray.empty)])), s.nx + 1) := ea_of ze_9 (by kernel_rfl) rfl rfl s ρ
theorem bs_9 : isByteSlice Tryd.prog 9 = false := by kernel_rfl
theorem is_9 : isStr Tryd.prog 9 = true := by kernel_rfl
theorem sz_12 : tySize Tryd.prog 12 = some 1 := by kernel_rfl
theorem ag_12 : tyAgg Tryd.prog 12 = some false := by kernel_rfl
theorem by_12 : tyBytes Tryd.prog 12 = some 8 := by kernel_rfl
theorem ze_12 : zeroOf Tryd.prog 12 = some (.int .u64 0) := by kernel_rfl
theorem un_12 : Tryd.prog.underlying 12 = some (.int .u64) := by kernel_rfl
theorem oz_12 : ofVal (.int .u64 0) = .val (.int .u64 0) := rfl
theorem ea_12 {Γ : Ctx} (s : AS) (ρ : Operand → PV) : evEff Tryd.prog Γ s ρ (.alloc 12) = some (.own s.nx 1 0 0, upd s.ob s.nx (some (12, 1, [.val (.int .u64 0)])), s.nx + 1) := ea_of ze_12 (by kernel_rfl) rfl rfl s ρ
theorem bs_12 : isByteSlice Tryd.prog 12 = false := by kernel_rfl
theorem is_12 : isStr Tryd.prog 12 = false := by kernel_rfl
theorem sz_13 : tySize Tryd.prog 13 = some 2 := by kernel_rfl
theorem ag_13 : tyAgg Tryd.prog 13 = some true := by kernel_rfl
theorem by_13 : tyBytes Tryd.prog 13 = some 24 := by kernel_rfl
theorem ze_13 : zeroOf Tryd.prog 13 = some (.agg #[.string ByteArray.empty, .int .u64 0]) := by kernel_rfl
theorem fo_13_0 : fieldOff Tryd.prog 13 0 = some 0 := by kernel_rfl
theorem fo_13_1 : fieldOff Tryd.prog 13 1 = some 1 := by kernel_rfl
theorem pl_13 : structPlaces Tryd.prog 13 = some #[(0, 1), (1, 1)] := by kernel_rfl
theorem bl_13 (ps : List (Nat × PV)) : evBuild Tryd.prog 13 ps = (fillP (plF [(0, 1), (1, 1)]) [.val (.string ByteArray.empty), .val (.int .u64 0)] ps).map .agg := bl_of ze_13 rfl pl_13 ps
theorem oz_13 : ofVal (.agg #[.string ByteArray.empty, .int .u64 0]) = .agg [.val (.string ByteArray.empty), .val (.int .u64 0)] := rfl
theorem ea_13 {Γ : Ctx} (s : AS) (ρ : Operand → PV) : evEff Tryd.prog Γ s ρ (.alloc 13) = some (.own s.nx 2 0 0, upd s.ob s.nx (some (13, 2, [.agg [.val (.string ByteArray.empty), .val (.int .u64 0)]])), s.nx + 1) := ea_of ze_13 (by kernel_rfl) rfl rfl s ρ
theorem bz_13 {Γ : Ctx} {ob : Objs} {ρ : Operand → PV} {ty : Nat} : evVal Tryd.prog Γ ob ρ ty (.build 13 #[]) = some (.agg [.val (.string ByteArray.empty), .val (.int .u64 0)]) := (show evBuild Tryd.prog 13 [] = some (.agg [.val (.string ByteArray.empty), .val (.int .u64 0)]) from by kernel_rfl)
theorem bs_13 : isByteSlice Tryd.prog 13 = false := by kernel_rfl
theorem is_13 : isStr Tryd.prog 13 = false := by kernel_rfl
theorem sz_21 : tySize Tryd.prog 21 = some 1 := by kernel_rfl
theorem ag_21 : tyAgg Tryd.prog 21 = some false := by kernel_rfl
theorem by_21 : tyBytes Tryd.prog 21 = some 4 := by kernel_rfl
theorem ze_21 : zeroOf Tryd.prog 21 = some (.int .i32 0) := by kernel_rfl
theorem un_21 : Tryd.prog.underlying 21 = some (.int .i32) := by kernel_rfl
theorem oz_21 : ofVal (.int .i32 0) = .val (.int .i32 0) := rfl
theorem ea_21 {Γ : Ctx} (s : AS) (ρ : Operand → PV) : evEff Tryd.prog Γ s ρ (.alloc 21) = some (.own s.nx 1 0 0, upd s.ob s.nx (some (21, 1, [.val (.int .i32 0)])), s.nx + 1) := ea_of ze_21 (by kernel_rfl) rfl rfl s ρ
theorem bs_21 : isByteSlice Tryd.prog 21 = false := by kernel_rfl
theorem is_21 : isStr Tryd.prog 21 = false := by kernel_rfl
theorem sz_28 : tySize Tryd.prog 28 = some 2 := by kernel_rfl
theorem ag_28 : tyAgg Tryd.prog 28 = some true := by kernel_rfl
theorem by_28 : tyBytes Tryd.prog 28 = some 32 := by kernel_rfl
theorem ze_28 : zeroOf Tryd.prog 28 = some (.agg #[.int .i64 0, .slice none 0 0]) := by kernel_rfl
theorem fo_28_0 : fieldOff Tryd.prog 28 0 = some 0 := by kernel_rfl
theorem fo_28_1 : fieldOff Tryd.prog 28 1 = some 1 := by kernel_rfl
theorem pl_28 : structPlaces Tryd.prog 28 = some #[(0, 1), (1, 1)] := by kernel_rfl
theorem bl_28 (ps : List (Nat × PV)) : evBuild Tryd.prog 28 ps = (fillP (plF [(0, 1), (1, 1)]) [.val (.int .i64 0), .val (.slice none 0 0)] ps).map .agg := bl_of ze_28 rfl pl_28 ps
theorem oz_28 : ofVal (.agg #[.int .i64 0, .slice none 0 0]) = .agg [.val (.int .i64 0), .val (.slice none 0 0)] := rfl
theorem ea_28 {Γ : Ctx} (s : AS) (ρ : Operand → PV) : evEff Tryd.prog Γ s ρ (.alloc 28) = some (.own s.nx 2 0 0, upd s.ob s.nx (some (28, 2, [.agg [.val (.int .i64 0), .val (.slice none 0 0)]])), s.nx + 1) := ea_of ze_28 (by kernel_rfl) rfl rfl s ρ
theorem bz_28 {Γ : Ctx} {ob : Objs} {ρ : Operand → PV} {ty : Nat} : evVal Tryd.prog Γ ob ρ ty (.build 28 #[]) = some (.agg [.val (.int .i64 0), .val (.slice none 0 0)]) := (show evBuild Tryd.prog 28 [] = some (.agg [.val (.int .i64 0), .val (.slice none 0 0)]) from by kernel_rfl)
theorem bs_28 : isByteSlice Tryd.prog 28 = false := by kernel_rfl
theorem is_28 : isStr Tryd.prog 28 = false := by kernel_rfl
theorem sz_29 : tySize Tryd.prog 29 = some 2 := by kernel_rfl
theorem ag_29 : tyAgg Tryd.prog 29 = some true := by kernel_rfl
theorem by_29 : tyBytes Tryd.prog 29 = some 32 := by kernel_rfl
theorem ze_29 : zeroOf Tryd.prog 29 = some (.agg #[.int .i64 0, .slice none 0 0]) := by kernel_rfl
theorem fo_29_0 : fieldOff Tryd.prog 29 0 = some 0 := by kernel_rfl
theorem fo_29_1 : fieldOff Tryd.prog 29 1 = some 1 := by kernel_rfl
theorem pl_29 : structPlaces Tryd.prog 29 = some #[(0, 1), (1, 1)] := by kernel_rfl
theorem bl_29 (ps : List (Nat × PV)) : evBuild Tryd.prog 29 ps = (fillP (plF [(0, 1), (1, 1)]) [.val (.int .i64 0), .val (.slice none 0 0)] ps).map .agg := bl_of ze_29 rfl pl_29 ps
theorem oz_29 : ofVal (.agg #[.int .i64 0, .slice none 0 0]) = .agg [.val (.int .i64 0), .val (.slice none 0 0)] := rfl
theorem ea_29 {Γ : Ctx} (s : AS) (ρ : Operand → PV) : evEff Tryd.prog Γ s ρ (.alloc 29) = some (.own s.nx 2 0 0, upd s.ob s.nx (some (29, 2, [.agg [.val (.int .i64 0), .val (.slice none 0 0)]])), s.nx + 1) := ea_of ze_29 (by kernel_rfl) rfl rfl s ρ
theorem bz_29 {Γ : Ctx} {ob : Objs} {ρ : Operand → PV} {ty : Nat} : evVal Tryd.prog Γ ob ρ ty (.build 29 #[]) = some (.agg [.val (.int .i64 0), .val (.slice none 0 0)]) := (show evBuild Tryd.prog 29 [] = some (.agg [.val (.int .i64 0), .val (.slice none 0 0)]) from by kernel_rfl)
theorem bs_29 : isByteSlice Tryd.prog 29 = false := by kernel_rfl
theorem is_29 : isStr Tryd.prog 29 = false := by kernel_rfl
theorem sz_32 : tySize Tryd.prog 32 = some 2 := by kernel_rfl
theorem ag_32 : tyAgg Tryd.prog 32 = some true := by kernel_rfl
theorem by_32 : tyBytes Tryd.prog 32 = some 32 := by kernel_rfl
theorem ze_32 : zeroOf Tryd.prog 32 = some (.agg #[.int .i64 0, .slice none 0 0]) := by kernel_rfl
theorem fo_32_0 : fieldOff Tryd.prog 32 0 = some 0 := by kernel_rfl
theorem fo_32_1 : fieldOff Tryd.prog 32 1 = some 1 := by kernel_rfl
theorem pl_32 : structPlaces Tryd.prog 32 = some #[(0, 1), (1, 1)] := by kernel_rfl
theorem bl_32 (ps : List (Nat × PV)) : evBuild Tryd.prog 32 ps = (fillP (plF [(0, 1), (1, 1)]) [.val (.int .i64 0), .val (.slice none 0 0)] ps).map .agg := bl_of ze_32 rfl pl_32 ps
theorem oz_32 : ofVal (.agg #[.int .i64 0, .slice none 0 0]) = .agg [.val (.int .i64 0), .val (.slice none 0 0)] := rfl
theorem ea_32 {Γ : Ctx} (s : AS) (ρ : Operand → PV) : evEff Tryd.prog Γ s ρ (.alloc 32) = some (.own s.nx 2 0 0, upd s.ob s.nx (some (32, 2, [.agg [.val (.int .i64 0), .val (.slice none 0 0)]])), s.nx + 1) := ea_of ze_32 (by kernel_rfl) rfl rfl s ρ
theorem bz_32 {Γ : Ctx} {ob : Objs} {ρ : Operand → PV} {ty : Nat} : evVal Tryd.prog Γ ob ρ ty (.build 32 #[]) = some (.agg [.val (.int .i64 0), .val (.slice none 0 0)]) := (show evBuild Tryd.prog 32 [] = some (.agg [.val (.int .i64 0), .val (.slice none 0 0)]) from by kernel_rfl)
theorem bs_32 : isByteSlice Tryd.prog 32 = false := by kernel_rfl
theorem is_32 : isStr Tryd.prog 32 = false := by kernel_rfl
theorem sz_79 : tySize Tryd.prog 79 = some 4 := by kernel_rfl
theorem ag_79 : tyAgg Tryd.prog 79 = some true := by kernel_rfl
theorem by_79 : tyBytes Tryd.prog 79 = some 32 := by kernel_rfl
theorem ze_79 : zeroOf Tryd.prog 79 = some (.agg #[.int .i64 0, .int .i64 0, .int .i64 0, .int .i64 0]) := by kernel_rfl
theorem fo_79_0 : fieldOff Tryd.prog 79 0 = some 0 := by kernel_rfl
theorem fo_79_1 : fieldOff Tryd.prog 79 1 = some 1 := by kernel_rfl
theorem fo_79_2 : fieldOff Tryd.prog 79 2 = some 2 := by kernel_rfl
theorem fo_79_3 : fieldOff Tryd.prog 79 3 = some 3 := by kernel_rfl
theorem pl_79 : structPlaces Tryd.prog 79 = some #[(0, 1), (1, 1), (2, 1), (3, 1)] := by kernel_rfl
theorem bl_79 (ps : List (Nat × PV)) : evBuild Tryd.prog 79 ps = (fillP (plF [(0, 1), (1, 1), (2, 1), (3, 1)]) [.val (.int .i64 0), .val (.int .i64 0), .val (.int .i64 0), .val (.int .i64 0)] ps).map .agg := bl_of ze_79 rfl pl_79 ps
theorem oz_79 : ofVal (.agg #[.int .i64 0, .int .i64 0, .int .i64 0, .int .i64 0]) = .agg [.val (.int .i64 0), .val (.int .i64 0), .val (.int .i64 0), .val (.int .i64 0)] := rfl
theorem ea_79 {Γ : Ctx} (s : AS) (ρ : Operand → PV) : evEff Tryd.prog Γ s ρ (.alloc 79) = some (.own s.nx 4 0 0, upd s.ob s.nx (some (79, 4, [.agg [.val (.int .i64 0), .val (.int .i64 0), .val (.int .i64 0), .val (.int .i64 0)]])), s.nx + 1) := ea_of ze_79 (by kernel_rfl) rfl rfl s ρ
theorem bz_79 {Γ : Ctx} {ob : Objs} {ρ : Operand → PV} {ty : Nat} : evVal Tryd.prog Γ ob ρ ty (.build 79 #[]) = some (.agg [.val (.int .i64 0), .val (.int .i64 0), .val (.int .i64 0), .val (.int .i64 0)]) := (show evBuild Tryd.prog 79 [] = some (.agg [.val (.int .i64 0), .val (.int .i64 0), .val (.int .i64 0), .val (.int .i64 0)]) from by kernel_rfl)
theorem bs_79 : isByteSlice Tryd.prog 79 = false := by kernel_rfl
theorem is_79 : isStr Tryd.prog 79 = false := by kernel_rfl
theorem sz_80 : tySize Tryd.prog 80 = some 4 := by kernel_rfl
theorem ag_80 : tyAgg Tryd.prog 80 = some true := by kernel_rfl
theorem by_80 : tyBytes Tryd.prog 80 = some 32 := by kernel_rfl
theorem ze_80 : zeroOf Tryd.prog 80 = some (.agg #[.int .i64 0, .int .i64 0, .int .i64 0, .int .i64 0]) := by kernel_rfl
theorem fo_80_0 : fieldOff Tryd.prog 80 0 = some 0 := by kernel_rfl
theorem fo_80_1 : fieldOff Tryd.prog 80 1 = some 1 := by kernel_rfl
theorem fo_80_2 : fieldOff Tryd.prog 80 2 = some 2 := by kernel_rfl
theorem fo_80_3 : fieldOff Tryd.prog 80 3 = some 3 := by kernel_rfl
theorem pl_80 : structPlaces Tryd.prog 80 = some #[(0, 1), (1, 1), (2, 1), (3, 1)] := by kernel_rfl
theorem bl_80 (ps : List (Nat × PV)) : evBuild Tryd.prog 80 ps = (fillP (plF [(0, 1), (1, 1), (2, 1), (3, 1)]) [.val (.int .i64 0), .val (.int .i64 0), .val (.int .i64 0), .val (.int .i64 0)] ps).map .agg := bl_of ze_80 rfl pl_80 ps
theorem oz_80 : ofVal (.agg #[.int .i64 0, .int .i64 0, .int .i64 0, .int .i64 0]) = .agg [.val (.int .i64 0), .val (.int .i64 0), .val (.int .i64 0), .val (.int .i64 0)] := rfl
theorem ea_80 {Γ : Ctx} (s : AS) (ρ : Operand → PV) : evEff Tryd.prog Γ s ρ (.alloc 80) = some (.own s.nx 4 0 0, upd s.ob s.nx (some (80, 4, [.agg [.val (.int .i64 0), .val (.int .i64 0), .val (.int .i64 0), .val (.int .i64 0)]])), s.nx + 1) := ea_of ze_80 (by kernel_rfl) rfl rfl s ρ
theorem bz_80 {Γ : Ctx} {ob : Objs} {ρ : Operand → PV} {ty : Nat} : evVal Tryd.prog Γ ob ρ ty (.build 80 #[]) = some (.agg [.val (.int .i64 0), .val (.int .i64 0), .val (.int .i64 0), .val (.int .i64 0)]) := (show evBuild Tryd.prog 80 [] = some (.agg [.val (.int .i64 0), .val (.int .i64 0), .val (.int .i64 0), .val (.int .i64 0)]) from by kernel_rfl)
theorem fd_80 : Tryd.prog.underlying 80 = some (.struct (Go.Program.fieldsOf Tryd.prog 80)) := by kernel_rfl
theorem ef_80 {a0 b0 : Int} {a1 b1 : Int} {a2 b2 : Int} {a3 b3 : Int} : eqFl Tryd.prog [.int .i64 a0, .int .i64 a1, .int .i64 a2, .int .i64 a3] [.int .i64 b0, .int .i64 b1, .int .i64 b2, .int .i64 b3] (Go.Program.fieldsOf Tryd.prog 80).toList = some ((a0 == b0) && ((a1 == b1) && ((a2 == b2) && ((a3 == b3) && true)))) := by kernel_rfl
theorem sqeql_80 {x y : Operand} {a0 b0 : Int} {a1 b1 : Int} {a2 b2 : Int} {a3 b3 : Int} : binP Tryd.prog .eql 80 x y (some (.agg #[.int .i64 a0, .int .i64 a1, .int .i64 a2, .int .i64 a3])) (some (.agg #[.int .i64 b0, .int .i64 b1, .int .i64 b2, .int .i64 b3])) = some (.val (.bool ((a0 == b0) && ((a1 == b1) && ((a2 == b2) && ((a3 == b3) && true)))))) := bp_eqlA fd_80 (by kernel_rfl) (by kernel_rfl) ef_80
theorem sqneq_80 {x y : Operand} {a0 b0 : Int} {a1 b1 : Int} {a2 b2 : Int} {a3 b3 : Int} : binP Tryd.prog .neq 80 x y (some (.agg #[.int .i64 a0, .int .i64 a1, .int .i64 a2, .int .i64 a3])) (some (.agg #[.int .i64 b0, .int .i64 b1, .int .i64 b2, .int .i64 b3])) = some (.val (.bool (!((a0 == b0) && ((a1 == b1) && ((a2 == b2) && ((a3 == b3) && true))))))) := bp_neqA fd_80 (by kernel_rfl) (by kernel_rfl) ef_80
theorem bs_80 : isByteSlice Tryd.prog 80 = false := by kernel_rfl
theorem is_80 : isStr Tryd.prog 80 = false := by kernel_rfl
theorem sz_100 : tySize Tryd.prog 100 = some 2 := by kernel_rfl
theorem ag_100 : tyAgg Tryd.prog 100 = some true := by kernel_rfl
theorem by_100 : tyBytes Tryd.prog 100 = some 32 := by kernel_rfl
theorem ze_100 : zeroOf Tryd.prog 100 = some (.agg #[.slice none 0 0, .int .i64 0]) := by kernel_rfl
theorem fo_100_0 : fieldOff Tryd.prog 100 0 = some 0 := by kernel_rfl
theorem fo_100_1 : fieldOff Tryd.prog 100 1 = some 1 := by kernel_rfl
theorem pl_100 : structPlaces Tryd.prog 100 = some #[(0, 1), (1, 1)] := by kernel_rfl
theorem bl_100 (ps : List (Nat × PV)) : evBuild Tryd.prog 100 ps = (fillP (plF [(0, 1), (1, 1)]) [.val (.slice none 0 0), .val (.int .i64 0)] ps).map .agg := bl_of ze_100 rfl pl_100 ps
theorem oz_100 : ofVal (.agg #[.slice none 0 0, .int .i64 0]) = .agg [.val (.slice none 0 0), .val (.int .i64 0)] := rfl
theorem ea_100 {Γ : Ctx} (s : AS) (ρ : Operand → PV) : evEff Tryd.prog Γ s ρ (.alloc 100) = some (.own s.nx 2 0 0, upd s.ob s.nx (some (100, 2, [.agg [.val (.slice none 0 0), .val (.int .i64 0)]])), s.nx + 1) := ea_of ze_100 (by kernel_rfl) rfl rfl s ρ
theorem bz_100 {Γ : Ctx} {ob : Objs} {ρ : Operand → PV} {ty : Nat} : evVal Tryd.prog Γ ob ρ ty (.build 100 #[]) = some (.agg [.val (.slice none 0 0), .val (.int .i64 0)]) := (show evBuild Tryd.prog 100 [] = some (.agg [.val (.slice none 0 0), .val (.int .i64 0)]) from by kernel_rfl)
theorem bs_100 : isByteSlice Tryd.prog 100 = false := by kernel_rfl
theorem is_100 : isStr Tryd.prog 100 = false := by kernel_rfl
theorem sz_101 : tySize Tryd.prog 101 = some 2 := by kernel_rfl
theorem ag_101 : tyAgg Tryd.prog 101 = some true := by kernel_rfl
theorem by_101 : tyBytes Tryd.prog 101 = some 32 := by kernel_rfl
theorem ze_101 : zeroOf Tryd.prog 101 = some (.agg #[.slice none 0 0, .int .i64 0]) := by kernel_rfl
theorem fo_101_0 : fieldOff Tryd.prog 101 0 = some 0 := by kernel_rfl
theorem fo_101_1 : fieldOff Tryd.prog 101 1 = some 1 := by kernel_rfl
theorem pl_101 : structPlaces Tryd.prog 101 = some #[(0, 1), (1, 1)] := by kernel_rfl
theorem bl_101 (ps : List (Nat × PV)) : evBuild Tryd.prog 101 ps = (fillP (plF [(0, 1), (1, 1)]) [.val (.slice none 0 0), .val (.int .i64 0)] ps).map .agg := bl_of ze_101 rfl pl_101 ps
theorem oz_101 : ofVal (.agg #[.slice none 0 0, .int .i64 0]) = .agg [.val (.slice none 0 0), .val (.int .i64 0)] := rfl
theorem ea_101 {Γ : Ctx} (s : AS) (ρ : Operand → PV) : evEff Tryd.prog Γ s ρ (.alloc 101) = some (.own s.nx 2 0 0, upd s.ob s.nx (some (101, 2, [.agg [.val (.slice none 0 0), .val (.int .i64 0)]])), s.nx + 1) := ea_of ze_101 (by kernel_rfl) rfl rfl s ρ
theorem bz_101 {Γ : Ctx} {ob : Objs} {ρ : Operand → PV} {ty : Nat} : evVal Tryd.prog Γ ob ρ ty (.build 101 #[]) = some (.agg [.val (.slice none 0 0), .val (.int .i64 0)]) := (show evBuild Tryd.prog 101 [] = some (.agg [.val (.slice none 0 0), .val (.int .i64 0)]) from by kernel_rfl)
theorem bs_101 : isByteSlice Tryd.prog 101 = false := by kernel_rfl
theorem is_101 : isStr Tryd.prog 101 = false := by kernel_rfl
theorem sz_102 : tySize Tryd.prog 102 = some 1 := by kernel_rfl
theorem ag_102 : tyAgg Tryd.prog 102 = some false := by kernel_rfl
theorem by_102 : tyBytes Tryd.prog 102 = some 8 := by kernel_rfl
theorem ze_102 : zeroOf Tryd.prog 102 = some (.int .u64 0) := by kernel_rfl
theorem un_102 : Tryd.prog.underlying 102 = some (.int .u64) := by kernel_rfl
theorem oz_102 : ofVal (.int .u64 0) = .val (.int .u64 0) := rfl
theorem ea_102 {Γ : Ctx} (s : AS) (ρ : Operand → PV) : evEff Tryd.prog Γ s ρ (.alloc 102) = some (.own s.nx 1 0 0, upd s.ob s.nx (some (102, 1, [.val (.int .u64 0)])), s.nx + 1) := ea_of ze_102 (by kernel_rfl) rfl rfl s ρ
theorem bs_102 : isByteSlice Tryd.prog 102 = false := by kernel_rfl
theorem is_102 : isStr Tryd.prog 102 = false := by kernel_rfl
theorem sz_120 : tySize Tryd.prog 120 = some 1 := by kernel_rfl
theorem ag_120 : tyAgg Tryd.prog 120 = some false := by kernel_rfl
theorem by_120 : tyBytes Tryd.prog 120 = some 4 := by kernel_rfl
theorem ze_120 : zeroOf Tryd.prog 120 = some (.int .u32 0) := by kernel_rfl
theorem un_120 : Tryd.prog.underlying 120 = some (.int .u32) := by kernel_rfl
theorem oz_120 : ofVal (.int .u32 0) = .val (.int .u32 0) := rfl
theorem ea_120 {Γ : Ctx} (s : AS) (ρ : Operand → PV) : evEff Tryd.prog Γ s ρ (.alloc 120) = some (.own s.nx 1 0 0, upd s.ob s.nx (some (120, 1, [.val (.int .u32 0)])), s.nx + 1) := ea_of ze_120 (by kernel_rfl) rfl rfl s ρ
theorem bs_120 : isByteSlice Tryd.prog 120 = false := by kernel_rfl
theorem is_120 : isStr Tryd.prog 120 = false := by kernel_rfl
theorem sz_123 : tySize Tryd.prog 123 = some 1 := by kernel_rfl
theorem ag_123 : tyAgg Tryd.prog 123 = some false := by kernel_rfl
theorem by_123 : tyBytes Tryd.prog 123 = some 8 := by kernel_rfl
theorem ze_123 : zeroOf Tryd.prog 123 = some (.int .u64 0) := by kernel_rfl
theorem un_123 : Tryd.prog.underlying 123 = some (.int .u64) := by kernel_rfl
theorem oz_123 : ofVal (.int .u64 0) = .val (.int .u64 0) := rfl
theorem ea_123 {Γ : Ctx} (s : AS) (ρ : Operand → PV) : evEff Tryd.prog Γ s ρ (.alloc 123) = some (.own s.nx 1 0 0, upd s.ob s.nx (some (123, 1, [.val (.int .u64 0)])), s.nx + 1) := ea_of ze_123 (by kernel_rfl) rfl rfl s ρ
theorem bs_123 : isByteSlice Tryd.prog 123 = false := by kernel_rfl
theorem is_123 : isStr Tryd.prog 123 = false := by kernel_rfl
theorem sz_130 : tySize Tryd.prog 130 = some 24 := by kernel_rfl
theorem ag_130 : tyAgg Tryd.prog 130 = some true := by kernel_rfl
theorem by_130 : tyBytes Tryd.prog 130 = some 24 := by kernel_rfl
theorem ze_130 : zeroOf Tryd.prog 130 = some (.agg #[.int .u8 0, .int .u8 0, .int .u8 0, .int .u8 0, .int .u8 0, .int .u8 0, .int .u8 0, .int .u8 0, .int .u8 0, .int .u8 0, .int .u8 0, .int .u8 0, .int .u8 0, .int .u8 0, .int .u8 0, .int .u8 0, .int .u8 0, .int .u8 0, .int .u8 0, .int .u8 0, .int .u8 0, .int .u8 0, .int .u8 0, .int .u8 0]) := by kernel_rfl
theorem un_130 : Tryd.prog.underlying 130 = some (.array 24 5) := by kernel_rfl
theorem oz_130 : ofVal (.agg #[.int .u8 0, .int .u8 0, .int .u8 0, .int .u8 0, .int .u8 0, .int .u8 0, .int .u8 0, .int .u8 0, .int .u8 0, .int .u8 0, .int .u8 0, .int .u8 0, .int .u8 0, .int .u8 0, .int .u8 0, .int .u8 0, .int .u8 0, .int .u8 0, .int .u8 0, .int .u8 0, .int .u8 0, .int .u8 0, .int .u8 0, .int .u8 0]) = .agg [.val (.int .u8 0), .val (.int .u8 0), .val (.int .u8 0), .val (.int .u8 0), .val (.int .u8 0), .val (.int .u8 0), .val (.int .u8 0), .val (.int .u8 0), .val (.int .u8 0), .val (.int .u8 0), .val (.int .u8 0), .val (.int .u8 0), .val (.int .u8 0), .val (.int .u8 0), .val (.int .u8 0), .val (.int .u8 0), .val (.int .u8 0), .val (.int .u8 0), .val (.int .u8 0), .val (.int .u8 0), .val (.int .u8 0), .val (.int .u8 0), .val (.int .u8 0), .val (.int .u8 0)] := rfl
theorem ea_130 {Γ : Ctx} (s : AS) (ρ : Operand → PV) : evEff Tryd.prog Γ s ρ (.alloc 130) = some (.own s.nx 24 0 0, upd s.ob s.nx (some (130, 24, [.agg [.val (.int .u8 0), .val (.int .u8 0), .val (.int .u8 0), .val (.int .u8 0), .val (.int .u8 0), .val (.int .u8 0), .val (.int .u8 0), .val (.int .u8 0), .val (.int .u8 0), .val (.int .u8 0), .val (.int .u8 0), .val (.int .u8 0), .val (.int .u8 0), .val (.int .u8 0), .val (.int .u8 0), .val (.int .u8 0), .val (.int .u8 0), .val (.int .u8 0), .val (.int .u8 0), .val (.int .u8 0), .val (.int .u8 0), .val (.int .u8 0), .val (.int .u8 0), .val (.int .u8 0)]])), s.nx + 1) := ea_of ze_130 (by kernel_rfl) rfl rfl s ρ
theorem bs_130 : isByteSlice Tryd.prog 130 = false := by kernel_rfl
theorem is_130 : isStr Tryd.prog 130 = false := by kernel_rfl
theorem sz_137 : tySize Tryd.prog 137 = some 20 := by kernel_rfl
theorem ag_137 : tyAgg Tryd.prog 137 = some true := by kernel_rfl
theorem by_137 : tyBytes Tryd.prog 137 = some 160 := by kernel_rfl
theorem ze_137 : zeroOf Tryd.prog 137 = some (.agg #[.int .u64 0, .int .u64 0, .int .u64 0, .int .u64 0, .int .u64 0, .int .u64 0, .int .u64 0, .int .u64 0, .int .u64 0, .int .u64 0, .int .u64 0, .int .u64 0, .int .u64 0, .int .u64 0, .int .u64 0, .int .u64 0, .int .u64 0, .int .u64 0, .int .u64 0, .int .u64 0]) := by kernel_rfl
theorem un_137 : Tryd.prog.underlying 137 = some (.array 20 123) := by kernel_rfl
theorem oz_137 : ofVal (.agg #[.int .u64 0, .int .u64 0, .int .u64 0, .int .u64 0, .int .u64 0, .int .u64 0, .int .u64 0, .int .u64 0, .int .u64 0, .int .u64 0, .int .u64 0, .int .u64 0, .int .u64 0, .int .u64 0, .int .u64 0, .int .u64 0, .int .u64 0, .int .u64 0, .int .u64 0, .int .u64 0]) = .agg [.val (.int .u64 0), .val (.int .u64 0), .val (.int .u64 0), .val (.int .u64 0), .val (.int .u64 0), .val (.int .u64 0), .val (.int .u64 0), .val (.int .u64 0), .val (.int .u64 0), .val (.int .u64 0), .val (.int .u64 0), .val (.int .u64 0), .val (.int .u64 0), .val (.int .u64 0), .val (.int .u64 0), .val (.int .u64 0), .val (.int .u64 0), .val (.int .u64 0), .val (.int .u64 0), .val (.int .u64 0)] := rfl
theorem ea_137 {Γ : Ctx} (s : AS) (ρ : Operand → PV) : evEff Tryd.prog Γ s ρ (.alloc 137) = some (.own s.nx 20 0 0, upd s.ob s.nx (some (137, 20, [.agg [.val (.int .u64 0), .val (.int .u64 0), .val (.int .u64 0), .val (.int .u64 0), .val (.int .u64 0), .val (.int .u64 0), .val (.int .u64 0), .val (.int .u64 0), .val (.int .u64 0), .val (.int .u64 0), .val (.int .u64 0), .val (.int .u64 0), .val (.int .u64 0), .val (.int .u64 0), .val (.int .u64 0), .val (.int .u64 0), .val (.int .u64 0), .val (.int .u64 0), .val (.int .u64 0), .val (.int .u64 0)]])), s.nx + 1) := ea_of ze_137 (by kernel_rfl) rfl rfl s ρ
theorem bs_137 : isByteSlice Tryd.prog 137 = false := by kernel_rfl
theorem is_137 : isStr Tryd.prog 137 = false := by kernel_rfl
theorem sz_141 : tySize Tryd.prog 141 = some 2 := by kernel_rfl
theorem ag_141 : tyAgg Tryd.prog 141 = some true := by kernel_rfl
theorem by_141 : tyBytes Tryd.prog 141 = some 2 := by kernel_rfl
theorem ze_141 : zeroOf Tryd.prog 141 = some (.agg #[.int .u8 0, .int .u8 0]) := by kernel_rfl
theorem fo_141_0 : fieldOff Tryd.prog 141 0 = some 0 := by kernel_rfl
theorem fo_141_1 : fieldOff Tryd.prog 141 1 = some 1 := by kernel_rfl
theorem pl_141 : structPlaces Tryd.prog 141 = some #[(0, 1), (1, 1)] := by kernel_rfl
theorem bl_141 (ps : List (Nat × PV)) : evBuild Tryd.prog 141 ps = (fillP (plF [(0, 1), (1, 1)]) [.val (.int .u8 0), .val (.int .u8 0)] ps).map .agg := bl_of ze_141 rfl pl_141 ps
theorem oz_141 : ofVal (.agg #[.int .u8 0, .int .u8 0]) = .agg [.val (.int .u8 0), .val (.int .u8 0)] := rfl
theorem ea_141 {Γ : Ctx} (s : AS) (ρ : Operand → PV) : evEff Tryd.prog Γ s ρ (.alloc 141) = some (.own s.nx 2 0 0, upd s.ob s.nx (some (141, 2, [.agg [.val (.int .u8 0), .val (.int .u8 0)]])), s.nx + 1) := ea_of ze_141 (by kernel_rfl) rfl rfl s ρ
theorem bz_141 {Γ : Ctx} {ob : Objs} {ρ : Operand → PV} {ty : Nat} : evVal Tryd.prog Γ ob ρ ty (.build 141 #[]) = some (.agg [.val (.int .u8 0), .val (.int .u8 0)]) := (show evBuild Tryd.prog 141 [] = some (.agg [.val (.int .u8 0), .val (.int .u8 0)]) from by kernel_rfl)
theorem bs_141 : isByteSlice Tryd.prog 141 = false := by kernel_rfl
theorem is_141 : isStr Tryd.prog 141 = false := by kernel_rfl
theorem sz_142 : tySize Tryd.prog 142 = some 2 := by kernel_rfl
theorem ag_142 : tyAgg Tryd.prog 142 = some true := by kernel_rfl
theorem by_142 : tyBytes Tryd.prog 142 = some 2 := by kernel_rfl
theorem ze_142 : zeroOf Tryd.prog 142 = some (.agg #[.int .u8 0, .int .u8 0]) := by kernel_rfl
theorem fo_142_0 : fieldOff Tryd.prog 142 0 = some 0 := by kernel_rfl
theorem fo_142_1 : fieldOff Tryd.prog 142 1 = some 1 := by kernel_rfl
theorem pl_142 : structPlaces Tryd.prog 142 = some #[(0, 1), (1, 1)] := by kernel_rfl
theorem bl_142 (ps : List (Nat × PV)) : evBuild Tryd.prog 142 ps = (fillP (plF [(0, 1), (1, 1)]) [.val (.int .u8 0), .val (.int .u8 0)] ps).map .agg := bl_of ze_142 rfl pl_142 ps
theorem oz_142 : ofVal (.agg #[.int .u8 0, .int .u8 0]) = .agg [.val (.int .u8 0), .val (.int .u8 0)] := rfl
theorem ea_142 {Γ : Ctx} (s : AS) (ρ : Operand → PV) : evEff Tryd.prog Γ s ρ (.alloc 142) = some (.own s.nx 2 0 0, upd s.ob s.nx (some (142, 2, [.agg [.val (.int .u8 0), .val (.int .u8 0)]])), s.nx + 1) := ea_of ze_142 (by kernel_rfl) rfl rfl s ρ
theorem bz_142 {Γ : Ctx} {ob : Objs} {ρ : Operand → PV} {ty : Nat} : evVal Tryd.prog Γ ob ρ ty (.build 142 #[]) = some (.agg [.val (.int .u8 0), .val (.int .u8 0)]) := (show evBuild Tryd.prog 142 [] = some (.agg [.val (.int .u8 0), .val (.int .u8 0)]) from by kernel_rfl)
theorem bs_142 : isByteSlice Tryd.prog 142 = false := by kernel_rfl
theorem is_142 : isStr Tryd.prog 142 = false := by kernel_rfl
theorem sz_143 : tySize Tryd.prog 143 = some 32 := by kernel_rfl
theorem ag_143 : tyAgg Tryd.prog 143 = some true := by kernel_rfl
theorem by_143 : tyBytes Tryd.prog 143 = some 32 := by kernel_rfl
theorem ze_143 : zeroOf Tryd.prog 143 = some (.agg #[.int .u8 0, .int .u8 0, .int .u8 0, .int .u8 0, .int .u8 0, .int .u8 0, .int .u8 0, .int .u8 0, .int .u8 0, .int .u8 0, .int .u8 0, .int .u8 0, .int .u8 0, .int .u8 0, .int .u8 0, .int .u8 0, .int .u8 0, .int .u8 0, .int .u8 0, .int .u8 0, .int .u8 0, .int .u8 0, .int .u8 0, .int .u8 0, .int .u8 0, .int .u8 0, .int .u8 0, .int .u8 0, .int .u8 0, .int .u8 0, .int .u8 0, .int .u8 0]) := by kernel_rfl
theorem un_143 : Tryd.prog.underlying 143 = some (.array 16 142) := by kernel_rfl
theorem oz_143 : ofVal (.agg #[.int .u8 0, .int .u8 0, .int .u8 0, .int .u8 0, .int .u8 0, .int .u8 0, .int .u8 0, .int .u8 0, .int .u8 0, .int .u8 0, .int .u8 0, .int .u8 0, .int .u8 0, .int .u8 0, .int .u8 0, .int .u8 0, .int .u8 0, .int .u8 0, .int .u8 0, .int .u8 0, .int .u8 0, .int .u8 0, .int .u8 0, .int .u8 0, .int .u8 0, .int .u8 0, .int .u8 0, .int .u8 0, .int .u8 0, .int .u8 0, .int .u8 0, .int .u8 0]) = .agg [.val (.int .u8 0), .val (.int .u8 0), .val (.int .u8 0), .val (.int .u8 0), .val (.int .u8 0), .val (.int .u8 0), .val (.int .u8 0), .val (.int .u8 0), .val (.int .u8 0), .val (.int .u8 0), .val (.int .u8 0), .val (.int .u8 0), .val (.int .u8 0), .val (.int .u8 0), .val (.int .u8 0), .val (.int .u8 0), .val (.int .u8 0), .val (.int .u8 0), .val (.int .u8 0), .val (.int .u8 0), .val (.int .u8 0), .val (.int .u8 0), .val (.int .u8 0), .val (.int .u8 0), .val (.int .u8 0), .val (.int .u8 0), .val (.int .u8 0), .val (.int .u8 0), .val (.int .u8 0), .val (.int .u8 0), .val (.int .u8 0), .val (.int .u8 0)] := rfl
theorem ea_143 {Γ : Ctx} (s : AS) (ρ : Operand → PV) : evEff Tryd.prog Γ s ρ (.alloc 143) = some (.own s.nx 32 0 0, upd s.ob s.nx (some (143, 32, [.agg [.val (.int .u8 0), .val (.int .u8 0), .val (.int .u8 0), .val (.int .u8 0), .val (.int .u8 0), .val (.int .u8 0), .val (.int .u8 0), .val (.int .u8 0), .val (.int .u8 0), .val (.int .u8 0), .val (.int .u8 0), .val (.int .u8 0), .val (.int .u8 0), .val (.int .u8 0), .val (.int .u8 0), .val (.int .u8 0), .val (.int .u8 0), .val (.int .u8 0), .val (.int .u8 0), .val (.int .u8 0), .val (.int .u8 0), .val (.int .u8 0), .val (.int .u8 0), .val (.int .u8 0), .val (.int .u8 0), .val (.int .u8 0), .val (.int .u8 0), .val (.int .u8 0), .val (.int .u8 0), .val (.int .u8 0), .val (.int .u8 0), .val (.int .u8 0)]])), s.nx + 1) := ea_of ze_143 (by kernel_rfl) rfl rfl s ρ
theorem bs_143 : isByteSlice Tryd.prog 143 = false := by kernel_rfl
theorem is_143 : isStr Tryd.prog 143 = false := by kernel_rfl
theorem sz_146 : tySize Tryd.prog 146 = some 32 := by kernel_rfl
theorem ag_146 : tyAgg Tryd.prog 146 = some true := by kernel_rfl
theorem by_146 : tyBytes Tryd.prog 146 = some 32 := by kernel_rfl
theorem ze_146 : zeroOf Tryd.prog 146 = some (.agg #[.int .u8 0, .int .u8 0, .int .u8 0, .int .u8 0, .int .u8 0, .int .u8 0, .int .u8 0, .int .u8 0, .int .u8 0, .int .u8 0, .int .u8 0, .int .u8 0, .int .u8 0, .int .u8 0, .int .u8 0, .int .u8 0, .int .u8 0, .int .u8 0, .int .u8 0, .int .u8 0, .int .u8 0, .int .u8 0, .int .u8 0, .int .u8 0, .int .u8 0, .int .u8 0, .int .u8 0, .int .u8 0, .int .u8 0, .int .u8 0, .int .u8 0, .int .u8 0]) := by kernel_rfl
theorem un_146 : Tryd.prog.underlying 146 = some (.array 32 5) := by kernel_rfl
theorem oz_146 : ofVal (.agg #[.int .u8 0, .int .u8 0, .int .u8 0, .int .u8 0, .int .u8 0, .int .u8 0, .int .u8 0, .int .u8 0, .int .u8 0, .int .u8 0, .int .u8 0, .int .u8 0, .int .u8 0, .int .u8 0, .int .u8 0, .int .u8 0, .int .u8 0, .int .u8 0, .int .u8 0, .int .u8 0, .int .u8 0, .int .u8 0, .int .u8 0, .int .u8 0, .int .u8 0, .int .u8 0, .int .u8 0, .int .u8 0, .int .u8 0, .int .u8 0, .int .u8 0, .int .u8 0]) = .agg [.val (.int .u8 0), .val (.int .u8 0), .val (.int .u8 0), .val (.int .u8 0), .val (.int .u8 0), .val (.int .u8 0), .val (.int .u8 0), .val (.int .u8 0), .val (.int .u8 0), .val (.int .u8 0), .val (.int .u8 0), .val (.int .u8 0), .val (.int .u8 0), .val (.int .u8 0), .val (.int .u8 0), .val (.int .u8 0), .val (.int .u8 0), .val (.int .u8 0), .val (.int .u8 0), .val (.int .u8 0), .val (.int .u8 0), .val (.int .u8 0), .val (.int .u8 0), .val (.int .u8 0), .val (.int .u8 0), .val (.int .u8 0), .val (.int .u8 0), .val (.int .u8 0), .val (.int .u8 0), .val (.int .u8 0), .val (.int .u8 0), .val (.int .u8 0)] := rfl
theorem ea_146 {Γ : Ctx} (s : AS) (ρ : Operand → PV) : evEff Tryd.prog Γ s ρ (.alloc 146) = some (.own s.nx 32 0 0, upd s.ob s.nx (some (146, 32, [.agg [.val (.int .u8 0), .val (.int .u8 0), .val (.int .u8 0), .val (.int .u8 0), .val (.int .u8 0), .val (.int .u8 0), .val (.int .u8 0), .val (.int .u8 0), .val (.int .u8 0), .val (.int .u8 0), .val (.int .u8 0), .val (.int .u8 0), .val (.int .u8 0), .val (.int .u8 0), .val (.int .u8 0), .val (.int .u8 0), .val (.int .u8 0), .val (.int .u8 0), .val (.int .u8 0), .val (.int .u8 0), .val (.int .u8 0), .val (.int .u8 0), .val (.int .u8 0), .val (.int .u8 0), .val (.int .u8 0), .val (.int .u8 0), .val (.int .u8 0), .val (.int .u8 0), .val (.int .u8 0), .val (.int .u8 0), .val (.int .u8 0), .val (.int .u8 0)]])), s.nx + 1) := ea_of ze_146 (by kernel_rfl) rfl rfl s ρ
theorem bs_146 : isByteSlice Tryd.prog 146 = false := by kernel_rfl
theorem is_146 : isStr Tryd.prog 146 = false := by kernel_rfl
theorem sz_147 : tySize Tryd.prog 147 = some 64 := by kernel_rfl
theorem ag_147 : tyAgg Tryd.prog 147 = some true := by kernel_rfl
theorem by_147 : tyBytes Tryd.prog 147 = some 64 := by kernel_rfl
theorem ze_147 : zeroOf Tryd.prog 147 = some (.agg #[.int .u8 0, .int .u8 0, .int .u8 0, .int .u8 0, .int .u8 0, .int .u8 0, .int .u8 0, .int .u8 0, .int .u8 0, .int .u8 0, .int .u8 0, .int .u8 0, .int .u8 0, .int .u8 0, .int .u8 0, .int .u8 0, .int .u8 0, .int .u8 0, .int .u8 0, .int .u8 0, .int .u8 0, .int .u8 0, .int .u8 0, .int .u8 0, .int .u8 0, .int .u8 0, .int .u8 0, .int .u8 0, .int .u8 0, .int .u8 0, .int .u8 0, .int .u8 0, .int .u8 0, .int .u8 0, .int .u8 0, .int .u8 0, .int .u8 0, .int .u8 0, .int .u8 0, .int .u8 0, .int .u8 0, .int .u8 0, .int .u8 0, .int .u8 0, .int .u8 0, .int .u8 0, .int .u8 0, .int .u8 0, .int .u8 0, .int .u8 0, .int .u8 0, .int .u8 0, .int .u8 0, .int .u8 0, .int .u8 0, .int .u8 0, .int .u8 0, .int .u8 0, .int .u8 0, .int .u8 0, .int .u8 0, .int .u8 0, .int .u8 0, .int .u8 0]) := by kernel_rfl
theorem un_147 : Tryd.prog.underlying 147 = some (.array 64 5) := by kernel_rfl
theorem oz_147 : ofVal (.agg #[.int .u8 0, .int .u8 0, .int .u8 0, .int .u8 0, .int .u8 0, .int .u8 0, .int .u8 0, .int .u8 0, .int .u8 0, .int .u8 0, .int .u8 0, .int .u8 0, .int .u8 0, .int .u8 0, .int .u8 0, .int .u8 0, .int .u8 0, .int .u8 0, .int .u8 0, .int .u8 0, .int .u8 0, .int .u8 0, .int .u8 0, .int .u8 0, .int .u8 0, .int .u8 0, .int .u8 0, .int .u8 0, .int .u8 0, .int .u8 0, .int .u8 0, .int .u8 0, .int .u8 0, .int .u8 0, .int .u8 0, .int .u8 0, .int .u8 0, .int .u8 0, .int .u8 0, .int .u8 0, .int .u8 0, .int .u8 0, .int .u8 0, .int .u8 0, .int .u8 0, .int .u8 0, .int .u8 0, .int .u8 0, .int .u8 0, .int .u8 0, .int .u8 0, .int .u8 0, .int .u8 0, .int .u8 0, .int .u8 0, .int .u8 0, .int .u8 0, .int .u8 0, .int .u8 0, .int .u8 0, .int .u8 0, .int .u8 0, .int .u8 0, .int .u8 0]) = .agg [.val (.int .u8 0), .val (.int .u8 0), .val (.int .u8 0), .val (.int .u8 0), .val (.int .u8 0), .val (.int .u8 0), .val (.int .u8 0), .val (.int .u8 0), .val (.int .u8 0), .val (.int .u8 0), .val (.int .u8 0), .val (.int .u8 0), .val (.int .u8 0), .val (.int .u8 0), .val (.int .u8 0), .val (.int .u8 0), .val (.int .u8 0), .val (.int .u8 0), .val (.int .u8 0), .val (.int .u8 0), .val (.int .u8 0), .val (.int .u8 0), .val (.int .u8 0), .val (.int .u8 0), .val (.int .u8 0), .val (.int .u8 0), .val (.int .u8 0), .val (.int .u8 0), .val (.int .u8 0), .val (.int .u8 0), .val (.int .u8 0), .val (.int .u8 0), .val (.int .u8 0), .val (.int .u8 0), .val (.int .u8 0), .val (.int .u8 0), .val (.int .u8 0), .val (.int .u8 0), .val (.int .u8 0), .val (.int .u8 0), .val (.int .u8 0), .val (.int .u8 0), .val (.int .u8 0), .val (.int .u8 0), .val (.int .u8 0), .val (.int .u8 0), .val (.int .u8 0), .val (.int .u8 0), .val (.int .u8 0), .val (.int .u8 0), .val (.int .u8 0), .val (.int .u8 0), .val (.int .u8 0), .val (.int .u8 0), .val (.int .u8 0), .val (.int .u8 0), .val (.int .u8 0), .val (.int .u8 0), .val (.int .u8 0), .val (.int .u8 0), .val (.int .u8 0), .val (.int .u8 0), .val (.int .u8 0), .val (.int .u8 0)] := rfl
theorem ea_147 {Γ : Ctx} (s : AS) (ρ : Operand → PV) : evEff Tryd.prog Γ s ρ (.alloc 147) = some (.own s.nx 64 0 0, upd s.ob s.nx (some (147, 64, [.agg [.val (.int .u8 0), .val (.int .u8 0), .val (.int .u8 0), .val (.int .u8 0), .val (.int .u8 0), .val (.int .u8 0), .val (.int .u8 0), .val (.int .u8 0), .val (.int .u8 0), .val (.int .u8 0), .val (.int .u8 0), .val (.int .u8 0), .val (.int .u8 0), .val (.int .u8 0), .val (.int .u8 0), .val (.int .u8 0), .val (.int .u8 0), .val (.int .u8 0), .val (.int .u8 0), .val (.int .u8 0), .val (.int .u8 0), .val (.int .u8 0), .val (.int .u8 0), .val (.int .u8 0), .val (.int .u8 0), .val (.int .u8 0), .val (.int .u8 0), .val (.int .u8 0), .val (.int .u8 0), .val (.int .u8 0), .val (.int .u8 0), .val (.int .u8 0), .val (.int .u8 0), .val (.int .u8 0), .val (.int .u8 0), .val (.int .u8 0), .val (.int .u8 0), .val (.int .u8 0), .val (.int .u8 0), .val (.int .u8 0), .val (.int .u8 0), .val (.int .u8 0), .val (.int .u8 0), .val (.int .u8 0), .val (.int .u8 0), .val (.int .u8 0), .val (.int .u8 0), .val (.int .u8 0), .val (.int .u8 0), .val (.int .u8 0), .val (.int .u8 0), .val (.int .u8 0), .val (.int .u8 0), .val (.int .u8 0), .val (.int .u8 0), .val (.int .u8 0), .val (.int .u8 0), .val (.int .u8 0), .val (.int .u8 0), .val (.int .u8 0), .val (.int .u8 0), .val (.int .u8 0), .val (.int .u8 0), .val (.int .u8 0)]])), s.nx + 1) := ea_of ze_147 (by kernel_rfl) rfl rfl s ρ
theorem bs_147 : isByteSlice Tryd.prog 147 = false := by kernel_rfl
theorem is_147 : isStr Tryd.prog 147 = false := by kernel_rfl
theorem sz_22 : tySize Tryd.prog 22 = some 1 := by kernel_rfl
theorem ag_22 : tyAgg Tryd.prog 22 = some false := by kernel_rfl
theorem by_22 : tyBytes Tryd.prog 22 = some 24 := by kernel_rfl
theorem ze_22 : zeroOf Tryd.prog 22 = some (.slice none 0 0) := by kernel_rfl
theorem un_22 : Tryd.prog.underlying 22 = some (.slice 9) := by kernel_rfl
theorem el_22 : tyElem Tryd.prog 22 = some 9 := by kernel_rfl
theorem ix_22 {k : Bool} {es : List PV} {i : Int} (h0 : 0 ≤ i) (h1 : i < (es.length : Int)) : evIndexAddr Tryd.prog 22 (.lst k 1 es) i = some (.ptr k ((es[i.toNat]?).getD .dead) 0) := ix_lst un_22 sz_9 h0 h1
theorem ixr_22 {o j n : Nat} {i : Int} (h0 : 0 ≤ i) (h1 : i < (n : Int)) : evIndexAddr Tryd.prog 22 (.row o 1 j n) i = some (.own o 1 (j + i.toNat) 0) := ix_row un_22 sz_9 h0 h1
theorem sl_22 {k : Bool} {es : List PV} {lo hi : Option Int} (h0 : 0 ≤ lo.getD 0) (h1 : lo.getD 0 ≤ hi.getD es.length) (h2 : hi.getD es.length ≤ es.length) : evSlice Tryd.prog 22 (.lst k 1 es) lo hi = some (.lst k 1 ((es.drop (lo.getD 0).toNat).take ((hi.getD es.length).toNat - (lo.getD 0).toNat))) := sl_lst un_22 sz_9 h0 h1 h2
theorem slr_22 {o i n : Nat} {lo hi : Option Int} (h0 : 0 ≤ lo.getD 0) (h1 : lo.getD 0 < hi.getD n) (h2 : hi.getD n ≤ n) : evSlice Tryd.prog 22 (.row o 1 i n) lo hi = some (.row o 1 (i + (lo.getD 0).toNat) ((hi.getD n).toNat - (lo.getD 0).toNat)) := sl_rowlt un_22 sz_9 h0 h1 h2
theorem sle_22 {o i n : Nat} {lo hi : Option Int} (h0 : 0 ≤ lo.getD 0) (h1 : lo.getD 0 = hi.getD n) (h2 : hi.getD n ≤ n) : evSlice Tryd.prog 22 (.row o 1 i n) lo hi = some (.lst true 1 []) := sl_roweq un_22 sz_9 h0 h1 h2
theorem lpl_22 {ty sz : Nat} {k : Bool} {es : List PV} : lenP Tryd.prog 22 ty (.lst k sz es) = some (.val (.int .i64 es.length)) := lp_lst el_22
theorem lpr_22 {ty o sz i n : Nat} : lenP Tryd.prog 22 ty (.row o sz i n) = some (.val (.int .i64 n)) := lp_row el_22
theorem lpn_22 {ty : Nat} : lenP Tryd.prog 22 ty (.val (.slice none 0 0)) = some (.val (.int .i64 0)) := lp_nil un_22
theorem oz_22 : ofVal (.slice none 0 0) = .val (.slice none 0 0) := rfl
theorem ea_22 {Γ : Ctx} (s : AS) (ρ : Operand → PV) : evEff Tryd.prog Γ s ρ (.alloc 22) = some (.own s.nx 1 0 0, upd s.ob s.nx (some (22, 1, [.val (.slice none 0 0)])), s.nx + 1) := ea_of ze_22 (by kernel_rfl) rfl rfl s ρ
theorem em_22 {Γ : Ctx} (s : AS) (ρ : Operand → PV) (l c : Operand) : evEff Tryd.prog Γ s ρ (.makeSlice 22 l c) = mkEv 9 1 16 (.string ByteArray.empty) s (ρ l) (ρ c) := em_of el_22 ze_9 sz_9 by_9 (by kernel_rfl) rfl s ρ l c
theorem eap_22 {Γ : Ctx} (s : AS) (ρ : Operand → PV) (x y : Operand) : evEff Tryd.prog Γ s ρ (.call { callee := .builtin .append, args := #[x, y], argTypes := #[22, 22] }) = apEv 9 1 16 s.nx s.ob (ρ x) (obOf s.ob (ρ x)) (sliceEs s.ob 1 (ρ y)) := eap_of el_22 ze_9 sz_9 by_9 (by decide) rfl s ρ x y
theorem ecp_22 {Γ : Ctx} (s : AS) (ρ : Operand → PV) (x y : Operand) (t' : Nat) : evEff Tryd.prog Γ s ρ (.call { callee := .builtin .copy, args := #[x, y], argTypes := #[22, t'] }) = cpX 1 s.nx s.ob (ρ x) (obOf s.ob (ρ x)) (srcEs s.ob 1 (ρ y)) := ecp_of el_22 sz_9 s ρ x y t'
theorem bs_22 : isByteSlice Tryd.prog 22 = false := by kernel_rfl
theorem is_22 : isStr Tryd.prog 22 = false := by kernel_rfl
theorem sz_27 : tySize Tryd.prog 27 = some 1 := by kernel_rfl
theorem ag_27 : tyAgg Tryd.prog 27 = some false := by kernel_rfl
theorem by_27 : tyBytes Tryd.prog 27 = some 24 := by kernel_rfl
theorem ze_27 : zeroOf Tryd.prog 27 = some (.slice none 0 0) := by kernel_rfl
theorem un_27 : Tryd.prog.underlying 27 = some (.slice 5) := by kernel_rfl
theorem el_27 : tyElem Tryd.prog 27 = some 5 := by kernel_rfl
theorem ix_27 {k : Bool} {es : List PV} {i : Int} (h0 : 0 ≤ i) (h1 : i < (es.length : Int)) : evIndexAddr Tryd.prog 27 (.lst k 1 es) i = some (.ptr k ((es[i.toNat]?).getD .dead) 0) := ix_lst un_27 sz_5 h0 h1
theorem ixr_27 {o j n : Nat} {i : Int} (h0 : 0 ≤ i) (h1 : i < (n : Int)) : evIndexAddr Tryd.prog 27 (.row o 1 j n) i = some (.own o 1 (j + i.toNat) 0) := ix_row un_27 sz_5 h0 h1
theorem sl_27 {k : Bool} {es : List PV} {lo hi : Option Int} (h0 : 0 ≤ lo.getD 0) (h1 : lo.getD 0 ≤ hi.getD es.length) (h2 : hi.getD es.length ≤ es.length) : evSlice Tryd.prog 27 (.lst k 1 es) lo hi = some (.lst k 1 ((es.drop (lo.getD 0).toNat).take ((hi.getD es.length).toNat - (lo.getD 0).toNat))) := sl_lst un_27 sz_5 h0 h1 h2
theorem slr_27 {o i n : Nat} {lo hi : Option Int} (h0 : 0 ≤ lo.getD 0) (h1 : lo.getD 0 < hi.getD n) (h2 : hi.getD n ≤ n) : evSlice Tryd.prog 27 (.row o 1 i n) lo hi = some (.row o 1 (i + (lo.getD 0).toNat) ((hi.getD n).toNat - (lo.getD 0).toNat)) := sl_rowlt un_27 sz_5 h0 h1 h2
theorem sle_27 {o i n : Nat} {lo hi : Option Int} (h0 : 0 ≤ lo.getD 0) (h1 : lo.getD 0 = hi.getD n) (h2 : hi.getD n ≤ n) : evSlice Tryd.prog 27 (.row o 1 i n) lo hi = some (.lst true 1 []) := sl_roweq un_27 sz_5 h0 h1 h2
theorem lpl_27 {ty sz : Nat} {k : Bool} {es : List PV} : lenP Tryd.prog 27 ty (.lst k sz es) = some (.val (.int .i64 es.length)) := lp_lst el_27
theorem lpr_27 {ty o sz i n : Nat} : lenP Tryd.prog 27 ty (.row o sz i n) = some (.val (.int .i64 n)) := lp_row el_27
theorem lpn_27 {ty : Nat} : lenP Tryd.prog 27 ty (.val (.slice none 0 0)) = some (.val (.int .i64 0)) := lp_nil un_27
theorem oz_27 : ofVal (.slice none 0 0) = .val (.slice none 0 0) := rfl
theorem ea_27 {Γ : Ctx} (s : AS) (ρ : Operand → PV) : evEff Tryd.prog Γ s ρ (.alloc 27) = some (.own s.nx 1 0 0, upd s.ob s.nx (some (27, 1, [.val (.slice none 0 0)])), s.nx + 1) := ea_of ze_27 (by kernel_rfl) rfl rfl s ρ
theorem em_27 {Γ : Ctx} (s : AS) (ρ : Operand → PV) (l c : Operand) : evEff Tryd.prog Γ s ρ (.makeSlice 27 l c) = mkEv 5 1 1 (.int .u8 0) s (ρ l) (ρ c) := em_of el_27 ze_5 sz_5 by_5 (by kernel_rfl) rfl s ρ l c
theorem eap_27 {Γ : Ctx} (s : AS) (ρ : Operand → PV) (x y : Operand) : evEff Tryd.prog Γ s ρ (.call { callee := .builtin .append, args := #[x, y], argTypes := #[27, 27] }) = apEv 5 1 1 s.nx s.ob (ρ x) (obOf s.ob (ρ x)) (sliceEs s.ob 1 (ρ y)) := eap_of el_27 ze_5 sz_5 by_5 (by decide) rfl s ρ x y
theorem ecp_27 {Γ : Ctx} (s : AS) (ρ : Operand → PV) (x y : Operand) (t' : Nat) : evEff Tryd.prog Γ s ρ (.call { callee := .builtin .copy, args := #[x, y], argTypes := #[27, t'] }) = cpX 1 s.nx s.ob (ρ x) (obOf s.ob (ρ x)) (srcEs s.ob 1 (ρ y)) := ecp_of el_27 sz_5 s ρ x y t'
theorem bs_27 : isByteSlice Tryd.prog 27 = true := by kernel_rfl
theorem is_27 : isStr Tryd.prog 27 = false := by kernel_rfl
theorem sz_74 : tySize Tryd.prog 74 = some 1 := by kernel_rfl
theorem ag_74 : tyAgg Tryd.prog 74 = some false := by kernel_rfl
theorem by_74 : tyBytes Tryd.prog 74 = some 24 := by kernel_rfl
theorem ze_74 : zeroOf Tryd.prog 74 = some (.slice none 0 0) := by kernel_rfl
theorem un_74 : Tryd.prog.underlying 74 = some (.slice 3) := by kernel_rfl
theorem el_74 : tyElem Tryd.prog 74 = some 3 := by kernel_rfl
theorem ix_74 {k : Bool} {es : List PV} {i : Int} (h0 : 0 ≤ i) (h1 : i < (es.length : Int)) : evIndexAddr Tryd.prog 74 (.lst k 1 es) i = some (.ptr k ((es[i.toNat]?).getD .dead) 0) := ix_lst un_74 sz_3 h0 h1
theorem ixr_74 {o j n : Nat} {i : Int} (h0 : 0 ≤ i) (h1 : i < (n : Int)) : evIndexAddr Tryd.prog 74 (.row o 1 j n) i = some (.own o 1 (j + i.toNat) 0) := ix_row un_74 sz_3 h0 h1
theorem sl_74 {k : Bool} {es : List PV} {lo hi : Option Int} (h0 : 0 ≤ lo.getD 0) (h1 : lo.getD 0 ≤ hi.getD es.length) (h2 : hi.getD es.length ≤ es.length) : evSlice Tryd.prog 74 (.lst k 1 es) lo hi = some (.lst k 1 ((es.drop (lo.getD 0).toNat).take ((hi.getD es.length).toNat - (lo.getD 0).toNat))) := sl_lst un_74 sz_3 h0 h1 h2
theorem slr_74 {o i n : Nat} {lo hi : Option Int} (h0 : 0 ≤ lo.getD 0) (h1 : lo.getD 0 < hi.getD n) (h2 : hi.getD n ≤ n) : evSlice Tryd.prog 74 (.row o 1 i n) lo hi = some (.row o 1 (i + (lo.getD 0).toNat) ((hi.getD n).toNat - (lo.getD 0).toNat)) := sl_rowlt un_74 sz_3 h0 h1 h2
theorem sle_74 {o i n : Nat} {lo hi : Option Int} (h0 : 0 ≤ lo.getD 0) (h1 : lo.getD 0 = hi.getD n) (h2 : hi.getD n ≤ n) : evSlice Tryd.prog 74 (.row o 1 i n) lo hi = some (.lst true 1 []) := sl_roweq un_74 sz_3 h0 h1 h2
theorem lpl_74 {ty sz : Nat} {k : Bool} {es : List PV} : lenP Tryd.prog 74 ty (.lst k sz es) = some (.val (.int .i64 es.length)) := lp_lst el_74
theorem lpr_74 {ty o sz i n : Nat} : lenP Tryd.prog 74 ty (.row o sz i n) = some (.val (.int .i64 n)) := lp_row el_74
theorem lpn_74 {ty : Nat} : lenP Tryd.prog 74 ty (.val (.slice none 0 0)) = some (.val (.int .i64 0)) := lp_nil un_74
theorem oz_74 : ofVal (.slice none 0 0) = .val (.slice none 0 0) := rfl
theorem ea_74 {Γ : Ctx} (s : AS) (ρ : Operand → PV) : evEff Tryd.prog Γ s ρ (.alloc 74) = some (.own s.nx 1 0 0, upd s.ob s.nx (some (74, 1, [.val (.slice none 0 0)])), s.nx + 1) := ea_of ze_74 (by kernel_rfl) rfl rfl s ρ
theorem em_74 {Γ : Ctx} (s : AS) (ρ : Operand → PV) (l c : Operand) : evEff Tryd.prog Γ s ρ (.makeSlice 74 l c) = mkEv 3 1 8 (.int .i64 0) s (ρ l) (ρ c) := em_of el_74 ze_3 sz_3 by_3 (by kernel_rfl) rfl s ρ l c
theorem eap_74 {Γ : Ctx} (s : AS) (ρ : Operand → PV) (x y : Operand) : evEff Tryd.prog Γ s ρ (.call { callee := .builtin .append, args := #[x, y], argTypes := #[74, 74] }) = apEv 3 1 8 s.nx s.ob (ρ x) (obOf s.ob (ρ x)) (sliceEs s.ob 1 (ρ y)) := eap_of el_74 ze_3 sz_3 by_3 (by decide) rfl s ρ x y
theorem ecp_74 {Γ : Ctx} (s : AS) (ρ : Operand → PV) (x y : Operand) (t' : Nat) : evEff Tryd.prog Γ s ρ (.call { callee := .builtin .copy, args := #[x, y], argTypes := #[74, t'] }) = cpX 1 s.nx s.ob (ρ x) (obOf s.ob (ρ x)) (srcEs s.ob 1 (ρ y)) := ecp_of el_74 sz_3 s ρ x y t'
theorem bs_74 : isByteSlice Tryd.prog 74 = false := by kernel_rfl
theorem is_74 : isStr Tryd.prog 74 = false := by kernel_rfl
theorem cvi_2_2 {k : IntKind} {n : Int} {es : Option (List PV)} : convP Tryd.prog 2 2 false es (some (.int k n)) = some (.val (.int .i64 (IntKind.i64.wrap n))) := cv_int un_2 un_2
theorem cvi_2_3 {k : IntKind} {n : Int} {es : Option (List PV)} : convP Tryd.prog 2 3 false es (some (.int k n)) = some (.val (.int .i64 (IntKind.i64.wrap n))) := cv_int un_2 un_3
theorem cvi_2_5 {k : IntKind} {n : Int} {es : Option (List PV)} : convP Tryd.prog 2 5 false es (some (.int k n)) = some (.val (.int .u8 (IntKind.u8.wrap n))) := cv_int un_2 un_5
theorem cvi_2_12 {k : IntKind} {n : Int} {es : Option (List PV)} : convP Tryd.prog 2 12 false es (some (.int k n)) = some (.val (.int .u64 (IntKind.u64.wrap n))) := cv_int un_2 un_12
theorem cvi_2_21 {k : IntKind} {n : Int} {es : Option (List PV)} : convP Tryd.prog 2 21 false es (some (.int k n)) = some (.val (.int .i32 (IntKind.i32.wrap n))) := cv_int un_2 un_21
theorem cvi_2_102 {k : IntKind} {n : Int} {es : Option (List PV)} : convP Tryd.prog 2 102 false es (some (.int k n)) = some (.val (.int .u64 (IntKind.u64.wrap n))) := cv_int un_2 un_102
theorem cvi_2_120 {k : IntKind} {n : Int} {es : Option (List PV)} : convP Tryd.prog 2 120 false es (some (.int k n)) = some (.val (.int .u32 (IntKind.u32.wrap n))) := cv_int un_2 un_120
theorem cvi_2_123 {k : IntKind} {n : Int} {es : Option (List PV)} : convP Tryd.prog 2 123 false es (some (.int k n)) = some (.val (.int .u64 (IntKind.u64.wrap n))) := cv_int un_2 un_123
theorem cvi_3_2 {k : IntKind} {n : Int} {es : Option (List PV)} : convP Tryd.prog 3 2 false es (some (.int k n)) = some (.val (.int .i64 (IntKind.i64.wrap n))) := cv_int un_3 un_2
theorem cvi_3_3 {k : IntKind} {n : Int} {es : Option (List PV)} : convP Tryd.prog 3 3 false es (some (.int k n)) = some (.val (.int .i64 (IntKind.i64.wrap n))) := cv_int un_3 un_3
theorem cvi_3_5 {k : IntKind} {n : Int} {es : Option (List PV)} : convP Tryd.prog 3 5 false es (some (.int k n)) = some (.val (.int .u8 (IntKind.u8.wrap n))) := cv_int un_3 un_5
theorem cvi_3_12 {k : IntKind} {n : Int} {es : Option (List PV)} : convP Tryd.prog 3 12 false es (some (.int k n)) = some (.val (.int .u64 (IntKind.u64.wrap n))) := cv_int un_3 un_12
theorem cvi_3_21 {k : IntKind} {n : Int} {es : Option (List PV)} : convP Tryd.prog 3 21 false es (some (.int k n)) = some (.val (.int .i32 (IntKind.i32.wrap n))) := cv_int un_3 un_21
theorem cvi_3_102 {k : IntKind} {n : Int} {es : Option (List PV)} : convP Tryd.prog 3 102 false es (some (.int k n)) = some (.val (.int .u64 (IntKind.u64.wrap n))) := cv_int un_3 un_102
theorem cvi_3_120 {k : IntKind} {n : Int} {es : Option (List PV)} : convP Tryd.prog 3 120 false es (some (.int k n)) = some (.val (.int .u32 (IntKind.u32.wrap n))) := cv_int un_3 un_120
theorem cvi_3_123 {k : IntKind} {n : Int} {es : Option (List PV)} : convP Tryd.prog 3 123 false es (some (.int k n)) = some (.val (.int .u64 (IntKind.u64.wrap n))) := cv_int un_3 un_123
theorem cvi_5_2 {k : IntKind} {n : Int} {es : Option (List PV)} : convP Tryd.prog 5 2 false es (some (.int k n)) = some (.val (.int .i64 (IntKind.i64.wrap n))) := cv_int un_5 un_2
theorem cvi_5_3 {k : IntKind} {n : Int} {es : Option (List PV)} : convP Tryd.prog 5 3 false es (some (.int k n)) = some (.val (.int .i64 (IntKind.i64.wrap n))) := cv_int un_5 un_3
theorem cvi_5_5 {k : IntKind} {n : Int} {es : Option (List PV)} : convP Tryd.prog 5 5 false es (some (.int k n)) = some (.val (.int .u8 (IntKind.u8.wrap n))) := cv_int un_5 un_5
theorem cvi_5_12 {k : IntKind} {n : Int} {es : Option (List PV)} : convP Tryd.prog 5 12 false es (some (.int k n)) = some (.val (.int .u64 (IntKind.u64.wrap n))) := cv_int un_5 un_12
theorem cvi_5_21 {k : IntKind} {n : Int} {es : Option (List PV)} : convP Tryd.prog 5 21 false es (some (.int k n)) = some (.val (.int .i32 (IntKind.i32.wrap n))) := cv_int un_5 un_21
theorem cvi_5_102 {k : IntKind} {n : Int} {es : Option (List PV)} : convP Tryd.prog 5 102 false es (some (.int k n)) = some (.val (.int .u64 (IntKind.u64.wrap n))) := cv_int un_5 un_102
theorem cvi_5_120 {k : IntKind} {n : Int} {es : Option (List PV)} : convP Tryd.prog 5 120 false es (some (.int k n)) = some (.val (.int .u32 (IntKind.u32.wrap n))) := cv_int un_5 un_120
theorem cvi_5_123 {k : IntKind} {n : Int} {es : Option (List PV)} : convP Tryd.prog 5 123 false es (some (.int k n)) = some (.val (.int .u64 (IntKind.u64.wrap n))) := cv_int un_5 un_123
theorem cvi_12_2 {k : IntKind} {n : Int} {es : Option (List PV)} : convP Tryd.prog 12 2 false es (some (.int k n)) = some (.val (.int .i64 (IntKind.i64.wrap n))) := cv_int un_12 un_2
theorem cvi_12_3 {k : IntKind} {n : Int} {es : Option (List PV)} : convP Tryd.prog 12 3 false es (some (.int k n)) = some (.val (.int .i64 (IntKind.i64.wrap n))) := cv_int un_12 un_3
theorem cvi_12_5 {k : IntKind} {n : Int} {es : Option (List PV)} : convP Tryd.prog 12 5 false es (some (.int k n)) = some (.val (.int .u8 (IntKind.u8.wrap n))) := cv_int un_12 un_5
theorem cvi_12_12 {k : IntKind} {n : Int} {es : Option (List PV)} : convP Tryd.prog 12 12 false es (some (.int k n)) = some (.val (.int .u64 (IntKind.u64.wrap n))) := cv_int un_12 un_12
theorem cvi_12_21 {k : IntKind} {n : Int} {es : Option (List PV)} : convP Tryd.prog 12 21 false es (some (.int k n)) = some (.val (.int .i32 (IntKind.i32.wrap n))) := cv_int un_12 un_21
theorem cvi_12_102 {k : IntKind} {n : Int} {es : Option (List PV)} : convP Tryd.prog 12 102 false es (some (.int k n)) = some (.val (.int .u64 (IntKind.u64.wrap n))) := cv_int un_12 un_102
theorem cvi_12_120 {k : IntKind} {n : Int} {es : Option (List PV)} : convP Tryd.prog 12 120 false es (some (.int k n)) = some (.val (.int .u32 (IntKind.u32.wrap n))) := cv_int un_12 un_120
theorem cvi_12_123 {k : IntKind} {n : Int} {es : Option (List PV)} : convP Tryd.prog 12 123 false es (some (.int k n)) = some (.val (.int .u64 (IntKind.u64.wrap n))) := cv_int un_12 un_123
theorem cvi_21_2 {k : IntKind} {n : Int} {es : Option (List PV)} : convP Tryd.prog 21 2 false es (some (.int k n)) = some (.val (.int .i64 (IntKind.i64.wrap n))) := cv_int un_21 un_2
theorem cvi_21_3 {k : IntKind} {n : Int} {es : Option (List PV)} : convP Tryd.prog 21 3 false es (some (.int k n)) = some (.val (.int .i64 (IntKind.i64.wrap n))) := cv_int un_21 un_3
theorem cvi_21_5 {k : IntKind} {n : Int} {es : Option (List PV)} : convP Tryd.prog 21 5 false es (some (.int k n)) = some (.val (.int .u8 (IntKind.u8.wrap n))) := cv_int un_21 un_5
theorem cvi_21_12 {k : IntKind} {n : Int} {es : Option (List PV)} : convP Tryd.prog 21 12 false es (some (.int k n)) = some (.val (.int .u64 (IntKind.u64.wrap n))) := cv_int un_21 un_12
theorem cvi_21_21 {k : IntKind} {n : Int} {es : Option (List PV)} : convP Tryd.prog 21 21 false es (some (.int k n)) = some (.val (.int .i32 (IntKind.i32.wrap n))) := cv_int un_21 un_21
theorem cvi_21_102 {k : IntKind} {n : Int} {es : Option (List PV)} : convP Tryd.prog 21 102 false es (some (.int k n)) = some (.val (.int .u64 (IntKind.u64.wrap n))) := cv_int un_21 un_102
theorem cvi_21_120 {k : IntKind} {n : Int} {es : Option (List PV)} : convP Tryd.prog 21 120 false es (some (.int k n)) = some (.val (.int .u32 (IntKind.u32.wrap n))) := cv_int un_21 un_120
theorem cvi_21_123 {k : IntKind} {n : Int} {es : Option (List PV)} : convP Tryd.prog 21 123 false es (some (.int k n)) = some (.val (.int .u64 (IntKind.u64.wrap n))) := cv_int un_21 un_123
theorem cvi_102_2 {k : IntKind} {n : Int} {es : Option (List PV)} : convP Tryd.prog 102 2 false es (some (.int k n)) = some (.val (.int .i64 (IntKind.i64.wrap n))) := cv_int un_102 un_2
theorem cvi_102_3 {k : IntKind} {n : Int} {es : Option (List PV)} : convP Tryd.prog 102 3 false es (some (.int k n)) = some (.val (.int .i64 (IntKind.i64.wrap n))) := cv_int un_102 un_3
theorem cvi_102_5 {k : IntKind} {n : Int} {es : Option (List PV)} : convP Tryd.prog 102 5 false es (some (.int k n)) = some (.val (.int .u8 (IntKind.u8.wrap n))) := cv_int un_102 un_5
theorem cvi_102_12 {k : IntKind} {n : Int} {es : Option (List PV)} : convP Tryd.prog 102 12 false es (some (.int k n)) = some (.val (.int .u64 (IntKind.u64.wrap n))) := cv_int un_102 un_12
theorem cvi_102_21 {k : IntKind} {n : Int} {es : Option (List PV)} : convP Tryd.prog 102 21 false es (some (.int k n)) = some (.val (.int .i32 (IntKind.i32.wrap n))) := cv_int un_102 un_21
theorem cvi_102_102 {k : IntKind} {n : Int} {es : Option (List PV)} : convP Tryd.prog 102 102 false es (some (.int k n)) = some (.val (.int .u64 (IntKind.u64.wrap n))) := cv_int un_102 un_102
theorem cvi_102_120 {k : IntKind} {n : Int} {es : Option (List PV)} : convP Tryd.prog 102 120 false es (some (.int k n)) = some (.val (.int .u32 (IntKind.u32.wrap n))) := cv_int un_102 un_120
theorem cvi_102_123 {k : IntKind} {n : Int} {es : Option (List PV)} : convP Tryd.prog 102 123 false es (some (.int k n)) = some (.val (.int .u64 (IntKind.u64.wrap n))) := cv_int un_102 un_123
theorem cvi_120_2 {k : IntKind} {n : Int} {es : Option (List PV)} : convP Tryd.prog 120 2 false es (some (.int k n)) = some (.val (.int .i64 (IntKind.i64.wrap n))) := cv_int un_120 un_2
theorem cvi_120_3 {k : IntKind} {n : Int} {es : Option (List PV)} : convP Tryd.prog 120 3 false es (some (.int k n)) = some (.val (.int .i64 (IntKind.i64.wrap n))) := cv_int un_120 un_3
theorem cvi_120_5 {k : IntKind} {n : Int} {es : Option (List PV)} : convP Tryd.prog 120 5 false es (some (.int k n)) = some (.val (.int .u8 (IntKind.u8.wrap n))) := cv_int un_120 un_5
theorem cvi_120_12 {k : IntKind} {n : Int} {es : Option (List PV)} : convP Tryd.prog 120 12 false es (some (.int k n)) = some (.val (.int .u64 (IntKind.u64.wrap n))) := cv_int un_120 un_12
theorem cvi_120_21 {k : IntKind} {n : Int} {es : Option (List PV)} : convP Tryd.prog 120 21 false es (some (.int k n)) = some (.val (.int .i32 (IntKind.i32.wrap n))) := cv_int un_120 un_21
theorem cvi_120_102 {k : IntKind} {n : Int} {es : Option (List PV)} : convP Tryd.prog 120 102 false es (some (.int k n)) = some (.val (.int .u64 (IntKind.u64.wrap n))) := cv_int un_120 un_102
theorem cvi_120_120 {k : IntKind} {n : Int} {es : Option (List PV)} : convP Tryd.prog 120 120 false es (some (.int k n)) = some (.val (.int .u32 (IntKind.u32.wrap n))) := cv_int un_120 un_120
theorem cvi_120_123 {k : IntKind} {n : Int} {es : Option (List PV)} : convP Tryd.prog 120 123 false es (some (.int k n)) = some (.val (.int .u64 (IntKind.u64.wrap n))) := cv_int un_120 un_123
theorem cvi_123_2 {k : IntKind} {n : Int} {es : Option (List PV)} : convP Tryd.prog 123 2 false es (some (.int k n)) = some (.val (.int .i64 (IntKind.i64.wrap n))) := cv_int un_123 un_2
theorem cvi_123_3 {k : IntKind} {n : Int} {es : Option (List PV)} : convP Tryd.prog 123 3 false es (some (.int k n)) = some (.val (.int .i64 (IntKind.i64.wrap n))) := cv_int un_123 un_3
theorem cvi_123_5 {k : IntKind} {n : Int} {es : Option (List PV)} : convP Tryd.prog 123 5 false es (some (.int k n)) = some (.val (.int .u8 (IntKind.u8.wrap n))) := cv_int un_123 un_5
theorem cvi_123_12 {k : IntKind} {n : Int} {es : Option (List PV)} : convP Tryd.prog 123 12 false es (some (.int k n)) = some (.val (.int .u64 (IntKind.u64.wrap n))) := cv_int un_123 un_12
theorem cvi_123_21 {k : IntKind} {n : Int} {es : Option (List PV)} : convP Tryd.prog 123 21 false es (some (.int k n)) = some (.val (.int .i32 (IntKind.i32.wrap n))) := cv_int un_123 un_21
theorem cvi_123_102 {k : IntKind} {n : Int} {es : Option (List PV)} : convP Tryd.prog 123 102 false es (some (.int k n)) = some (.val (.int .u64 (IntKind.u64.wrap n))) := cv_int un_123 un_102
theorem cvi_123_120 {k : IntKind} {n : Int} {es : Option (List PV)} : convP Tryd.prog 123 120 false es (some (.int k n)) = some (.val (.int .u32 (IntKind.u32.wrap n))) := cv_int un_123 un_120
theorem cvi_123_123 {k : IntKind} {n : Int} {es : Option (List PV)} : convP Tryd.prog 123 123 false es (some (.int k n)) = some (.val (.int .u64 (IntKind.u64.wrap n))) := cv_int un_123 un_123
theorem rw_22_0 : rowEs Tryd.prog 22 0 [] = rowC 9 1 [] (true) := rw_of el_22 sz_9 ze_9 _ (by decide) (by decide) rfl
theorem rw_22_1 {a0 : PV} : rowEs Tryd.prog 22 1 [(0, a0)] = rowC 9 1 [a0] (okP 1 a0 && (true)) := rw_of el_22 sz_9 ze_9 _ (by decide) (by decide) rfl
theorem rw_22_4 {a0 a1 a2 a3 : PV} : rowEs Tryd.prog 22 4 [(0, a0), (1, a1), (2, a2), (3, a3)] = rowC 9 1 [a0, a1, a2, a3] (okP 1 a0 && (okP 1 a1 && (okP 1 a2 && (okP 1 a3 && (true))))) := rw_of el_22 sz_9 ze_9 _ (by decide) (by decide) rfl
theorem rw_22_5 {a0 a1 a2 a3 a4 : PV} : rowEs Tryd.prog 22 5 [(0, a0), (1, a1), (2, a2), (3, a3), (4, a4)] = rowC 9 1 [a0, a1, a2, a3, a4] (okP 1 a0 && (okP 1 a1 && (okP 1 a2 && (okP 1 a3 && (okP 1 a4 && (true)))))) := rw_of el_22 sz_9 ze_9 _ (by decide) (by decide) rfl
theorem rw_22_12 {a0 a1 a2 a3 a4 a5 a6 a7 a8 a9 a10 a11 : PV} : rowEs Tryd.prog 22 12 [(0, a0), (1, a1), (2, a2), (3, a3), (4, a4), (5, a5), (6, a6), (7, a7), (8, a8), (9, a9), (10, a10), (11, a11)] = rowC 9 1 [a0, a1, a2, a3, a4, a5, a6, a7, a8, a9, a10, a11] (okP 1 a0 && (okP 1 a1 && (okP 1 a2 && (okP 1 a3 && (okP 1 a4 && (okP 1 a5 && (okP 1 a6 && (okP 1 a7 && (okP 1 a8 && (okP 1 a9 && (okP 1 a10 && (okP 1 a11 && (true))))))))))))) := rw_of el_22 sz_9 ze_9 _ (by decide) (by decide) rfl
theorem rw_27_0 : rowEs Tryd.prog 27 0 [] = rowC 5 1 [] (true) := rw_of el_27 sz_5 ze_5 _ (by decide) (by decide) rfl
theorem rw_27_1 {a0 : PV} : rowEs Tryd.prog 27 1 [(0, a0)] = rowC 5 1 [a0] (okP 1 a0 && (true)) := rw_of el_27 sz_5 ze_5 _ (by decide) (by decide) rfl
theorem rw_27_3 {a0 a1 a2 : PV} : rowEs Tryd.prog 27 3 [(0, a0), (1, a1), (2, a2)] = rowC 5 1 [a0, a1, a2] (okP 1 a0 && (okP 1 a1 && (okP 1 a2 && (true)))) := rw_of el_27 sz_5 ze_5 _ (by decide) (by decide) rfl
theorem rw_74_0 : rowEs Tryd.prog 74 0 [] = rowC 3 1 [] (true) := rw_of el_74 sz_3 ze_3 _ (by decide) (by decide) rfl
theorem rw_74_1 {a0 : PV} : rowEs Tryd.prog 74 1 [(0, a0)] = rowC 3 1 [a0] (okP 1 a0 && (true)) := rw_of el_74 sz_3 ze_3 _ (by decide) (by decide) rfl
theorem rw_74_3 {a0 a1 a2 : PV} : rowEs Tryd.prog 74 3 [(0, a0), (1, a1), (2, a2)] = rowC 3 1 [a0, a1, a2] (okP 1 a0 && (okP 1 a1 && (okP 1 a2 && (true)))) := rw_of el_74 sz_3 ze_3 _ (by decide) (by decide) rfl
theorem rw_74_4 {a0 a1 a2 a3 : PV} : rowEs Tryd.prog 74 4 [(0, a0), (1, a1), (2, a2), (3, a3)] = rowC 3 1 [a0, a1, a2, a3] (okP 1 a0 && (okP 1 a1 && (okP 1 a2 && (okP 1 a3 && (true))))) := rw_of el_74 sz_3 ze_3 _ (by decide) (by decide) rfl
theorem rw_74_6 {a0 a1 a2 a3 a4 a5 : PV} : rowEs Tryd.prog 74 6 [(0, a0), (1, a1), (2, a2), (3, a3), (4, a4), (5, a5)] = rowC 3 1 [a0, a1, a2, a3, a4, a5] (okP 1 a0 && (okP 1 a1 && (okP 1 a2 && (okP 1 a3 && (okP 1 a4 && (okP 1 a5 && (true))))))) := rw_of el_74 sz_3 ze_3 _ (by decide) (by decide) rfl
theorem rw_74_7 {a0 a1 a2 a3 a4 a5 a6 : PV} : rowEs Tryd.prog 74 7 [(0, a0), (1, a1), (2, a2), (3, a3), (4, a4), (5, a5), (6, a6)] = rowC 3 1 [a0, a1, a2, a3, a4, a5, a6] (okP 1 a0 && (okP 1 a1 && (okP 1 a2 && (okP 1 a3 && (okP 1 a4 && (okP 1 a5 && (okP 1 a6 && (true)))))))) := rw_of el_74 sz_3 ze_3 _ (by decide) (by decide) rfl
theorem mixed : Tryd.prog.follows .mixedOrders = true := by kernel_rfl
attribute [push_cast high]
  bz_7 bz_13 bz_28 bz_29 bz_32 bz_79 bz_80 bz_100 bz_101 bz_141 bz_142
attribute [push_cast]
  sz_2 ag_2 by_2 ze_2 un_2 oz_2 ea_2 bs_2 is_2 sz_3 ag_3 by_3 ze_3 un_3 oz_3 ea_3 bs_3 is_3 sz_4 ag_4 by_4 ze_4 un_4 bqe_4 bqn_4 oz_4 ea_4 bs_4 is_4 sz_5 ag_5 by_5 ze_5 un_5 oz_5 ea_5 bs_5 is_5 sz_7 ag_7 by_7 ze_7 fo_7_0 fo_7_1 fo_7_2 fo_7_3 pl_7 bl_7 oz_7 ea_7 bs_7 is_7 sz_9 ag_9 by_9 ze_9 un_9 lps_9 ixs_9 oz_9 ea_9 bs_9 is_9 sz_12 ag_12 by_12 ze_12 un_12 oz_12 ea_12 bs_12 is_12 sz_13 ag_13 by_13 ze_13 fo_13_0 fo_13_1 pl_13 bl_13 oz_13 ea_13 bs_13 is_13 sz_21 ag_21 by_21 ze_21 un_21 oz_21 ea_21 bs_21 is_21 sz_28 ag_28 by_28 ze_28 fo_28_0 fo_28_1 pl_28 bl_28 oz_28 ea_28 bs_28 is_28 sz_29 ag_29 by_29 ze_29 fo_29_0 fo_29_1 pl_29 bl_29 oz_29 ea_29 bs_29 is_29 sz_32 ag_32 by_32 ze_32 fo_32_0 fo_32_1 pl_32 bl_32 oz_32 ea_32 bs_32 is_32 sz_79 ag_79 by_79 ze_79 fo_79_0 fo_79_1 fo_79_2 fo_79_3 pl_79 bl_79 oz_79 ea_79 bs_79 is_79 sz_80 ag_80 by_80 ze_80 fo_80_0 fo_80_1 fo_80_2 fo_80_3 pl_80 bl_80 oz_80 ea_80 sqeql_80 sqneq_80 bs_80 is_80 sz_100 ag_100 by_100 ze_100 fo_100_0 fo_100_1 pl_100 bl_100 oz_100 ea_100 bs_100 is_100 sz_101 ag_101 by_101 ze_101 fo_101_0 fo_101_1 pl_101 bl_101 oz_101 ea_101 bs_101 is_101 sz_102 ag_102 by_102 ze_102 un_102 oz_102 ea_102 bs_102 is_102 sz_120 ag_120 by_120 ze_120 un_120 oz_120 ea_120 bs_120 is_120 sz_123 ag_123 by_123 ze_123 un_123 oz_123 ea_123 bs_123 is_123 sz_130 ag_130 by_130 ze_130 un_130 oz_130 ea_130 bs_130 is_130 sz_137 ag_137 by_137 ze_137 un_137 oz_137 ea_137 bs_137 is_137 sz_141 ag_141 by_141 ze_141 fo_141_0 fo_141_1 pl_141 bl_141 oz_141 ea_141 bs_141 is_141 sz_142 ag_142 by_142 ze_142 fo_142_0 fo_142_1 pl_142 bl_142 oz_142 ea_142 bs_142 is_142 sz_143 ag_143 by_143 ze_143 un_143 oz_143 ea_143 bs_143 is_143 sz_146 ag_146 by_146 ze_146 un_146 oz_146 ea_146 bs_146 is_146 sz_147 ag_147 by_147 ze_147 un_147 oz_147 ea_147 bs_147 is_147 sz_22 ag_22 by_22 ze_22 un_22 el_22 ix_22 ixr_22 sl_22 slr_22 sle_22 lpl_22 lpr_22 lpn_22 oz_22 ea_22 em_22 eap_22 ecp_22 bs_22 is_22 sz_27 ag_27 by_27 ze_27 un_27 el_27 ix_27 ixr_27 sl_27 slr_27 sle_27 lpl_27 lpr_27 lpn_27 oz_27 ea_27 em_27 eap_27 ecp_27 bs_27 is_27 sz_74 ag_74 by_74 ze_74 un_74 el_74 ix_74 ixr_74 sl_74 slr_74 sle_74 lpl_74 lpr_74 lpn_74 oz_74 ea_74 em_74 eap_74 ecp_74 bs_74 is_74 cvi_2_2 cvi_2_3 cvi_2_5 cvi_2_12 cvi_2_21 cvi_2_102 cvi_2_120 cvi_2_123 cvi_3_2 cvi_3_3 cvi_3_5 cvi_3_12 cvi_3_21 cvi_3_102 cvi_3_120 cvi_3_123 cvi_5_2 cvi_5_3 cvi_5_5 cvi_5_12 cvi_5_21 cvi_5_102 cvi_5_120 cvi_5_123 cvi_12_2 cvi_12_3 cvi_12_5 cvi_12_12 cvi_12_21 cvi_12_102 cvi_12_120 cvi_12_123 cvi_21_2 cvi_21_3 cvi_21_5 cvi_21_12 cvi_21_21 cvi_21_102 cvi_21_120 cvi_21_123 cvi_102_2 cvi_102_3 cvi_102_5 cvi_102_12 cvi_102_21 cvi_102_102 cvi_102_120 cvi_102_123 cvi_120_2 cvi_120_3 cvi_120_5 cvi_120_12 cvi_120_21 cvi_120_102 cvi_120_120 cvi_120_123 cvi_123_2 cvi_123_3 cvi_123_5 cvi_123_12 cvi_123_21 cvi_123_102 cvi_123_120 cvi_123_123 rw_22_0 rw_22_1 rw_22_4 rw_22_5 rw_22_12 rw_27_0 rw_27_1 rw_27_3 rw_74_0 rw_74_1 rw_74_3 rw_74_4 rw_74_6 rw_74_7
end Go.Proofs.YtenldjifipnjpaaDoor
namespace Go.Proofs
open Go.Shelf
def YtenldjifipnjpaaDoor.lays169_ren : Go.Shelf.Ren := ⟨fun | 169 => 47 | n => n, fun | 70 => 56 | 9 => 9 | 0 => 0 | 72 => 58 | 37 => 27 | 127 => 92 | 3 => 3 | 5 => 5 | n => n, fun | n => n⟩
theorem YtenldjifipnjpaaDoor.lays169 : Go.Proofs.Lays.n169 Tryd.prog YtenldjifipnjpaaDoor.lays169_ren := {
  mixed := by kernel_rfl
  f169 := Tryd.func47.trans (congrArg some (by kernel_rfl))
  t0 := Tryd.underlying0
  a0 := Tryd.isAgg0
  z0 := Tryd.sizeOf0
  v0 := Tryd.zeroValue0
  t3 := Tryd.underlying3
  a3 := Tryd.isAgg3
  z3 := Tryd.sizeOf3
  v3 := Tryd.zeroValue3
  t9 := Tryd.underlying9
  a9 := Tryd.isAgg9
  z9 := Tryd.sizeOf9
  v9 := Tryd.zeroValue9
  t37 := Tryd.underlying27
  a37 := Tryd.isAgg27
  z37 := Tryd.sizeOf27
  v37 := Tryd.zeroValue27
  t70 := Tryd.underlying56
  a70 := Tryd.isAgg56
  z70 := Tryd.sizeOf56
  v70 := Tryd.zeroValue56
  t72 := Tryd.underlying58
  a72 := Tryd.isAgg58
  z72 := Tryd.sizeOf58
  v72 := Tryd.zeroValue58
  t127 := Tryd.underlying92
  a127 := Tryd.isAgg92
  z127 := Tryd.sizeOf92
  v127 := Tryd.zeroValue92 }
theorem YtenldjifipnjpaaDoor.Builder_Extra_169 : Builder.Extra Tryd.prog YtenldjifipnjpaaDoor.lays169_ren := {
  sizeBuilder := by kernel_rfl
  liesBuilder := by kernel_rfl
  t5 := Tryd.underlying5
  a5 := Tryd.isAgg5
  z5 := Tryd.sizeOf5
  v5 := Tryd.zeroValue5
  infoByte := by kernel_rfl
  cellsByte := by kernel_rfl
  sizeByte := by kernel_rfl
  neB5 := by decide }
open Go.RowKit in
theorem YtenldjifipnjpaaDoor.Builder_String_any (B b : Nat) (l : List UInt8) (w : World) (h : Lib.IsBuilder 58 5 B b (Lib.byteCells l) w) (hBw : B ≤ w.heap.size) :
    Calls Tryd.prog 47 #[.pointer (some ⟨b, 0, none⟩)] w fun e w' => e = .returned (.string ⟨l.toArray⟩) ∧ Below B w w' := Any.Builder_String_any YtenldjifipnjpaaDoor.lays169 YtenldjifipnjpaaDoor.Builder_Extra_169 B b l w h hBw
def YtenldjifipnjpaaDoor.lays156_ren : Go.Shelf.Ren := ⟨fun | 156 => 79 | 165 => 96 | 166 => 45 | 169 => 47 | 240 => 82 | 241 => 113 | 276 => 102 | 277 => 89 | n => n, fun | 31 => 22 | 9 => 9 | 3 => 3 | 4 => 4 | 0 => 0 | 20 => 20 | 72 => 58 | 76 => 62 | 70 => 56 | 37 => 27 | 75 => 61 | 127 => 92 | 164 => 113 | 5 => 5 | 80 => 65 | n => n, fun | n => n⟩
theorem YtenldjifipnjpaaDoor.lays156 : Go.Proofs.Lays.n156 Tryd.prog YtenldjifipnjpaaDoor.lays156_ren := {
  mixed := by kernel_rfl
  f156 := Tryd.func79.trans (congrArg some (by kernel_rfl))
  f165 := Tryd.func96.trans (congrArg some (by kernel_rfl))
  f166 := Tryd.func45.trans (congrArg some (by kernel_rfl))
  f169 := Tryd.func47.trans (congrArg some (by kernel_rfl))
  f240 := Tryd.func82.trans (congrArg some (by kernel_rfl))
  f241 := Tryd.func113.trans (congrArg some (by kernel_rfl))
  f276 := Tryd.func102.trans (congrArg some (by kernel_rfl))
  f277 := Tryd.func89.trans (congrArg some (by kernel_rfl))
  t0 := Tryd.underlying0
  a0 := Tryd.isAgg0
  z0 := Tryd.sizeOf0
  v0 := Tryd.zeroValue0
  t3 := Tryd.underlying3
  a3 := Tryd.isAgg3
  z3 := Tryd.sizeOf3
  v3 := Tryd.zeroValue3
  t4 := Tryd.underlying4
  a4 := Tryd.isAgg4
  z4 := Tryd.sizeOf4
  v4 := Tryd.zeroValue4
  t9 := Tryd.underlying9
  a9 := Tryd.isAgg9
  z9 := Tryd.sizeOf9
  v9 := Tryd.zeroValue9
  t20 := Tryd.underlying20
  a20 := Tryd.isAgg20
  z20 := Tryd.sizeOf20
  v20 := Tryd.zeroValue20
  t31 := Tryd.underlying22
  a31 := Tryd.isAgg22
  z31 := Tryd.sizeOf22
  v31 := Tryd.zeroValue22
  t37 := Tryd.underlying27
  a37 := Tryd.isAgg27
  z37 := Tryd.sizeOf27
  v37 := Tryd.zeroValue27
  t70 := Tryd.underlying56
  a70 := Tryd.isAgg56
  z70 := Tryd.sizeOf56
  v70 := Tryd.zeroValue56
  t72 := Tryd.underlying58
  a72 := Tryd.isAgg58
  z72 := Tryd.sizeOf58
  v72 := Tryd.zeroValue58
  t75 := Tryd.underlying61
  a75 := Tryd.isAgg61
  z75 := Tryd.sizeOf61
  v75 := Tryd.zeroValue61
  t76 := Tryd.underlying62
  a76 := Tryd.isAgg62
  z76 := Tryd.sizeOf62
  v76 := Tryd.zeroValue62
  t127 := Tryd.underlying92
  a127 := Tryd.isAgg92
  z127 := Tryd.sizeOf92
  v127 := Tryd.zeroValue92
  t164 := Tryd.underlying113
  a164 := Tryd.isAgg113
  z164 := Tryd.sizeOf113
  v164 := Tryd.zeroValue113 }
theorem YtenldjifipnjpaaDoor.Builder_Extra_156 : Builder.Extra Tryd.prog YtenldjifipnjpaaDoor.lays156_ren := {
  sizeBuilder := by kernel_rfl
  liesBuilder := by kernel_rfl
  t5 := Tryd.underlying5
  a5 := Tryd.isAgg5
  z5 := Tryd.sizeOf5
  v5 := Tryd.zeroValue5
  infoByte := by kernel_rfl
  cellsByte := by kernel_rfl
  sizeByte := by kernel_rfl
  neB5 := by decide }
open Go.RowKit in
theorem YtenldjifipnjpaaDoor.strings_Join_none (a : Option Addr) (c : Nat) (sep : ByteArray) (w : World) :
    Calls Tryd.prog 79 #[.slice a 0 c, .string sep] w fun e w' => e = .returned (.string ⟨#[]⟩) ∧ w' = w := Any.strings_Join_none YtenldjifipnjpaaDoor.lays156 YtenldjifipnjpaaDoor.Builder_Extra_156 a c sep w
open Go.RowKit in
theorem YtenldjifipnjpaaDoor.strings_Join (bk o c : Nat) (xs : List ByteArray) (sep : ByteArray) (w : World) (hcells : ∀ (j : Nat) x, xs[j]? = some x → w.cell? ⟨bk, o + j, none⟩ = some (.string x)) (hbk : bk < w.heap.size) (hN : xs.length ≤ 140737488355328) (hcap : xs.length ≤ c) (hlen : (Lib.join (xs.map (·.data.toList)) sep.data.toList).length ≤ 140737488355328) :
    Calls Tryd.prog 79 #[.slice (some ⟨bk, o, none⟩) xs.length c, .string sep] w fun e w' => e = .returned (.string ⟨(Lib.join (xs.map (·.data.toList)) sep.data.toList).toArray⟩) ∧ Below w.heap.size w w' := Any.strings_Join YtenldjifipnjpaaDoor.lays156 YtenldjifipnjpaaDoor.Builder_Extra_156 bk o c xs sep w hcells hbk hN hcap hlen
def YtenldjifipnjpaaDoor.lays104_ren : Go.Shelf.Ren := ⟨fun | 104 => 44 | 211 => 81 | 207 => 101 | n => n, fun | 9 => 9 | 4 => 4 | 24 => 50 | 3 => 3 | n => n, fun | n => n⟩
theorem YtenldjifipnjpaaDoor.lays104 : Go.Proofs.Lays.n104 Tryd.prog YtenldjifipnjpaaDoor.lays104_ren := {
  mixed := by kernel_rfl
  f104 := Tryd.func44.trans (congrArg some (by kernel_rfl))
  f207 := Tryd.func101.trans (congrArg some (by kernel_rfl))
  f211 := Tryd.func81.trans (congrArg some (by kernel_rfl))
  t3 := Tryd.underlying3
  a3 := Tryd.isAgg3
  z3 := Tryd.sizeOf3
  v3 := Tryd.zeroValue3
  t4 := Tryd.underlying4
  a4 := Tryd.isAgg4
  z4 := Tryd.sizeOf4
  v4 := Tryd.zeroValue4
  t9 := Tryd.underlying9
  a9 := Tryd.isAgg9
  z9 := Tryd.sizeOf9
  v9 := Tryd.zeroValue9
  t24 := Tryd.underlying50
  a24 := Tryd.isAgg50
  z24 := Tryd.sizeOf50
  v24 := Tryd.zeroValue50 }
open Go.RowKit in
theorem YtenldjifipnjpaaDoor.strings_CutSuffix (s p : ByteArray) (w : World) (hs : s.size ≤ 9223372036854775807) :
    Calls Tryd.prog 44 #[.string s, .string p] w fun e w' => e = .returned (.tuple #[.string ⟨(Lib.trimSuffix s.data.toList p.data.toList).toArray⟩, .bool (Lib.hasSuffix s.data.toList p.data.toList)]) ∧ w' = w := Any.strings_CutSuffix YtenldjifipnjpaaDoor.lays104 s p w hs
def YtenldjifipnjpaaDoor.lays143_ren : Go.Shelf.Ren := ⟨fun | 143 => 105 | 219 => 118 | 217 => 126 | 225 => 127 | 224 => 128 | 267 => 129 | 266 => 137 | 314 => 138 | n => n, fun | 9 => 9 | 3 => 3 | 4 => 4 | 5 => 5 | 46 => 102 | 146 => 121 | 51 => 120 | n => n, fun | 1 => 0 | n => n⟩
theorem YtenldjifipnjpaaDoor.lays143 : Go.Proofs.Lays.n143 Tryd.prog YtenldjifipnjpaaDoor.lays143_ren := {
  mixed := by kernel_rfl
  f143 := Tryd.func105.trans (congrArg some (by kernel_rfl))
  f217 := Tryd.func126.trans (congrArg some (by kernel_rfl))
  f219 := Tryd.func118.trans (congrArg some (by kernel_rfl))
  f224 := Tryd.func128.trans (congrArg some (by kernel_rfl))
  f225 := Tryd.func127.trans (congrArg some (by kernel_rfl))
  f266 := Tryd.func137.trans (congrArg some (by kernel_rfl))
  f267 := Tryd.func129.trans (congrArg some (by kernel_rfl))
  f314 := Tryd.func138.trans (congrArg some (by kernel_rfl))
  t3 := Tryd.underlying3
  a3 := Tryd.isAgg3
  z3 := Tryd.sizeOf3
  v3 := Tryd.zeroValue3
  t4 := Tryd.underlying4
  a4 := Tryd.isAgg4
  z4 := Tryd.sizeOf4
  v4 := Tryd.zeroValue4
  t5 := Tryd.underlying5
  a5 := Tryd.isAgg5
  z5 := Tryd.sizeOf5
  v5 := Tryd.zeroValue5
  t9 := Tryd.underlying9
  a9 := Tryd.isAgg9
  z9 := Tryd.sizeOf9
  v9 := Tryd.zeroValue9
  t46 := Tryd.underlying102
  a46 := Tryd.isAgg102
  z46 := Tryd.sizeOf102
  v46 := Tryd.zeroValue102
  t51 := Tryd.underlying120
  a51 := Tryd.isAgg120
  z51 := Tryd.sizeOf120
  v51 := Tryd.zeroValue120
  t146 := Tryd.underlying121
  a146 := Tryd.isAgg121
  z146 := Tryd.sizeOf121
  v146 := Tryd.zeroValue121
  g1 := by kernel_rfl }
open Go.RowKit Go.Lib in
theorem YtenldjifipnjpaaDoor.strings_Index_one (s : ByteArray) (c : UInt8) (w : World) :
    Calls Tryd.prog 105 #[.string s, .string ⟨#[c]⟩] w fun e w' => e = .returned (.int .i64 (Lib.indexByte s.data.toList c)) ∧ w' = w := Any.strings_Index_one YtenldjifipnjpaaDoor.lays143 s c w
def YtenldjifipnjpaaDoor.lays138_ren : Go.Shelf.Ren := ⟨fun | 138 => 104 | 195 => 115 | 218 => 117 | 143 => 105 | 219 => 118 | 217 => 126 | 225 => 127 | 224 => 128 | 267 => 129 | 266 => 137 | 314 => 138 | n => n, fun | 9 => 9 | 3 => 3 | 4 => 4 | 5 => 5 | 0 => 0 | 46 => 102 | 146 => 121 | 51 => 120 | n => n, fun | 1 => 0 | n => n⟩
theorem YtenldjifipnjpaaDoor.lays138 : Go.Proofs.Lays.n138 Tryd.prog YtenldjifipnjpaaDoor.lays138_ren := {
  mixed := by kernel_rfl
  f138 := Tryd.func104.trans (congrArg some (by kernel_rfl))
  f143 := Tryd.func105.trans (congrArg some (by kernel_rfl))
  f195 := Tryd.func115.trans (congrArg some (by kernel_rfl))
  f217 := Tryd.func126.trans (congrArg some (by kernel_rfl))
  f218 := Tryd.func117.trans (congrArg some (by kernel_rfl))
  f219 := Tryd.func118.trans (congrArg some (by kernel_rfl))
  f224 := Tryd.func128.trans (congrArg some (by kernel_rfl))
  f225 := Tryd.func127.trans (congrArg some (by kernel_rfl))
  f266 := Tryd.func137.trans (congrArg some (by kernel_rfl))
  f267 := Tryd.func129.trans (congrArg some (by kernel_rfl))
  f314 := Tryd.func138.trans (congrArg some (by kernel_rfl))
  t0 := Tryd.underlying0
  a0 := Tryd.isAgg0
  z0 := Tryd.sizeOf0
  v0 := Tryd.zeroValue0
  t3 := Tryd.underlying3
  a3 := Tryd.isAgg3
  z3 := Tryd.sizeOf3
  v3 := Tryd.zeroValue3
  t4 := Tryd.underlying4
  a4 := Tryd.isAgg4
  z4 := Tryd.sizeOf4
  v4 := Tryd.zeroValue4
  t5 := Tryd.underlying5
  a5 := Tryd.isAgg5
  z5 := Tryd.sizeOf5
  v5 := Tryd.zeroValue5
  t9 := Tryd.underlying9
  a9 := Tryd.isAgg9
  z9 := Tryd.sizeOf9
  v9 := Tryd.zeroValue9
  t46 := Tryd.underlying102
  a46 := Tryd.isAgg102
  z46 := Tryd.sizeOf102
  v46 := Tryd.zeroValue102
  t51 := Tryd.underlying120
  a51 := Tryd.isAgg120
  z51 := Tryd.sizeOf120
  v51 := Tryd.zeroValue120
  t146 := Tryd.underlying121
  a146 := Tryd.isAgg121
  z146 := Tryd.sizeOf121
  v146 := Tryd.zeroValue121
  g1 := by kernel_rfl }
open Go.RowKit Go.Lib in
theorem YtenldjifipnjpaaDoor.strings_Count_one (s : ByteArray) (c : UInt8) (w : World) :
    Calls Tryd.prog 104 #[.string s, .string ⟨#[c]⟩] w fun e w' => e = .returned (.int .i64 (Lib.countByte s.data.toList c)) ∧ w' = w := Any.strings_Count_one YtenldjifipnjpaaDoor.lays138 s c w
def YtenldjifipnjpaaDoor.lays221_ren : Go.Shelf.Ren := ⟨fun | 221 => 83 | 268 => 103 | 138 => 104 | 143 => 105 | 195 => 115 | 197 => 116 | 218 => 117 | 219 => 118 | 260 => 125 | 217 => 126 | 225 => 127 | 224 => 128 | 267 => 129 | 266 => 137 | 314 => 138 | n => n, fun | 9 => 9 | 3 => 3 | 31 => 22 | 4 => 4 | 0 => 0 | 105 => 117 | 21 => 21 | 5 => 5 | 46 => 102 | 119 => 140 | 139 => 143 | 138 => 142 | 146 => 121 | 51 => 120 | n => n, fun | 1 => 0 | 3 => 2 | 4 => 3 | n => n⟩
theorem YtenldjifipnjpaaDoor.lays221 : Go.Proofs.Lays.n221 Tryd.prog YtenldjifipnjpaaDoor.lays221_ren := {
  mixed := by kernel_rfl
  f138 := Tryd.func104.trans (congrArg some (by kernel_rfl))
  f143 := Tryd.func105.trans (congrArg some (by kernel_rfl))
  f195 := Tryd.func115.trans (congrArg some (by kernel_rfl))
  f197 := Tryd.func116.trans (congrArg some (by kernel_rfl))
  f217 := Tryd.func126.trans (congrArg some (by kernel_rfl))
  f218 := Tryd.func117.trans (congrArg some (by kernel_rfl))
  f219 := Tryd.func118.trans (congrArg some (by kernel_rfl))
  f221 := Tryd.func83.trans (congrArg some (by kernel_rfl))
  f224 := Tryd.func128.trans (congrArg some (by kernel_rfl))
  f225 := Tryd.func127.trans (congrArg some (by kernel_rfl))
  f260 := Tryd.func125.trans (congrArg some (by kernel_rfl))
  f266 := Tryd.func137.trans (congrArg some (by kernel_rfl))
  f267 := Tryd.func129.trans (congrArg some (by kernel_rfl))
  f268 := Tryd.func103.trans (congrArg some (by kernel_rfl))
  f314 := Tryd.func138.trans (congrArg some (by kernel_rfl))
  t0 := Tryd.underlying0
  a0 := Tryd.isAgg0
  z0 := Tryd.sizeOf0
  v0 := Tryd.zeroValue0
  t3 := Tryd.underlying3
  a3 := Tryd.isAgg3
  z3 := Tryd.sizeOf3
  v3 := Tryd.zeroValue3
  t4 := Tryd.underlying4
  a4 := Tryd.isAgg4
  z4 := Tryd.sizeOf4
  v4 := Tryd.zeroValue4
  t5 := Tryd.underlying5
  a5 := Tryd.isAgg5
  z5 := Tryd.sizeOf5
  v5 := Tryd.zeroValue5
  t9 := Tryd.underlying9
  a9 := Tryd.isAgg9
  z9 := Tryd.sizeOf9
  v9 := Tryd.zeroValue9
  t21 := Tryd.underlying21
  a21 := Tryd.isAgg21
  z21 := Tryd.sizeOf21
  v21 := Tryd.zeroValue21
  t31 := Tryd.underlying22
  a31 := Tryd.isAgg22
  z31 := Tryd.sizeOf22
  v31 := Tryd.zeroValue22
  t46 := Tryd.underlying102
  a46 := Tryd.isAgg102
  z46 := Tryd.sizeOf102
  v46 := Tryd.zeroValue102
  t51 := Tryd.underlying120
  a51 := Tryd.isAgg120
  z51 := Tryd.sizeOf120
  v51 := Tryd.zeroValue120
  t105 := Tryd.underlying117
  a105 := Tryd.isAgg117
  z105 := Tryd.sizeOf117
  v105 := Tryd.zeroValue117
  t119 := Tryd.underlying140
  a119 := Tryd.isAgg140
  z119 := Tryd.sizeOf140
  t138 := Tryd.underlying142
  a138 := Tryd.isAgg142
  z138 := Tryd.sizeOf142
  v138 := Tryd.zeroValue142
  t139 := Tryd.underlying143
  a139 := Tryd.isAgg143
  z139 := Tryd.sizeOf143
  v139 := Tryd.zeroValue143
  t146 := Tryd.underlying121
  a146 := Tryd.isAgg121
  z146 := Tryd.sizeOf121
  v146 := Tryd.zeroValue121
  g1 := by kernel_rfl
  g3 := by kernel_rfl
  g4 := by kernel_rfl }
def YtenldjifipnjpaaDoor.lays105_ren : Go.Shelf.Ren := ⟨fun | 105 => 73 | 212 => 88 | 99 => 95 | 165 => 96 | 166 => 45 | 170 => 97 | 169 => 47 | 263 => 109 | 264 => 110 | 206 => 112 | 240 => 82 | 241 => 113 | 276 => 102 | 277 => 89 | n => n, fun | 9 => 9 | 3 => 3 | 4 => 4 | 20 => 20 | 0 => 0 | 46 => 102 | 109 => 103 | 5 => 5 | 72 => 58 | 76 => 62 | 51 => 120 | 146 => 121 | 53 => 123 | 148 => 124 | 70 => 56 | 37 => 27 | 75 => 61 | 127 => 92 | 164 => 113 | 80 => 65 | n => n, fun | n => n⟩
theorem YtenldjifipnjpaaDoor.lays105 : Go.Proofs.Lays.n105 Tryd.prog YtenldjifipnjpaaDoor.lays105_ren := {
  mixed := by kernel_rfl
  f99 := Tryd.func95.trans (congrArg some (by kernel_rfl))
  f105 := Tryd.func73.trans (congrArg some (by kernel_rfl))
  f165 := Tryd.func96.trans (congrArg some (by kernel_rfl))
  f166 := Tryd.func45.trans (congrArg some (by kernel_rfl))
  f169 := Tryd.func47.trans (congrArg some (by kernel_rfl))
  f170 := Tryd.func97.trans (congrArg some (by kernel_rfl))
  f206 := Tryd.func112.trans (congrArg some (by kernel_rfl))
  f212 := Tryd.func88.trans (congrArg some (by kernel_rfl))
  f240 := Tryd.func82.trans (congrArg some (by kernel_rfl))
  f241 := Tryd.func113.trans (congrArg some (by kernel_rfl))
  f263 := Tryd.func109.trans (congrArg some (by kernel_rfl))
  f264 := Tryd.func110.trans (congrArg some (by kernel_rfl))
  f276 := Tryd.func102.trans (congrArg some (by kernel_rfl))
  f277 := Tryd.func89.trans (congrArg some (by kernel_rfl))
  t0 := Tryd.underlying0
  a0 := Tryd.isAgg0
  z0 := Tryd.sizeOf0
  v0 := Tryd.zeroValue0
  t3 := Tryd.underlying3
  a3 := Tryd.isAgg3
  z3 := Tryd.sizeOf3
  v3 := Tryd.zeroValue3
  t4 := Tryd.underlying4
  a4 := Tryd.isAgg4
  z4 := Tryd.sizeOf4
  v4 := Tryd.zeroValue4
  t5 := Tryd.underlying5
  a5 := Tryd.isAgg5
  z5 := Tryd.sizeOf5
  v5 := Tryd.zeroValue5
  t9 := Tryd.underlying9
  a9 := Tryd.isAgg9
  z9 := Tryd.sizeOf9
  v9 := Tryd.zeroValue9
  t20 := Tryd.underlying20
  a20 := Tryd.isAgg20
  z20 := Tryd.sizeOf20
  v20 := Tryd.zeroValue20
  t37 := Tryd.underlying27
  a37 := Tryd.isAgg27
  z37 := Tryd.sizeOf27
  v37 := Tryd.zeroValue27
  t46 := Tryd.underlying102
  a46 := Tryd.isAgg102
  z46 := Tryd.sizeOf102
  v46 := Tryd.zeroValue102
  t51 := Tryd.underlying120
  a51 := Tryd.isAgg120
  z51 := Tryd.sizeOf120
  v51 := Tryd.zeroValue120
  t53 := Tryd.underlying123
  a53 := Tryd.isAgg123
  z53 := Tryd.sizeOf123
  v53 := Tryd.zeroValue123
  t70 := Tryd.underlying56
  a70 := Tryd.isAgg56
  z70 := Tryd.sizeOf56
  v70 := Tryd.zeroValue56
  t72 := Tryd.underlying58
  a72 := Tryd.isAgg58
  z72 := Tryd.sizeOf58
  v72 := Tryd.zeroValue58
  t75 := Tryd.underlying61
  a75 := Tryd.isAgg61
  z75 := Tryd.sizeOf61
  v75 := Tryd.zeroValue61
  t76 := Tryd.underlying62
  a76 := Tryd.isAgg62
  z76 := Tryd.sizeOf62
  v76 := Tryd.zeroValue62
  t109 := Tryd.underlying103
  a109 := Tryd.isAgg103
  z109 := Tryd.sizeOf103
  v109 := Tryd.zeroValue103
  t127 := Tryd.underlying92
  a127 := Tryd.isAgg92
  z127 := Tryd.sizeOf92
  v127 := Tryd.zeroValue92
  t146 := Tryd.underlying121
  a146 := Tryd.isAgg121
  z146 := Tryd.sizeOf121
  v146 := Tryd.zeroValue121
  t148 := Tryd.underlying124
  a148 := Tryd.isAgg124
  z148 := Tryd.sizeOf124
  v148 := Tryd.zeroValue124
  t164 := Tryd.underlying113
  a164 := Tryd.isAgg113
  z164 := Tryd.sizeOf113
  v164 := Tryd.zeroValue113 }
theorem YtenldjifipnjpaaDoor.Builder_Extra_105 : Builder.Extra Tryd.prog YtenldjifipnjpaaDoor.lays105_ren := {
  sizeBuilder := by kernel_rfl
  liesBuilder := by kernel_rfl
  t5 := Tryd.underlying5
  a5 := Tryd.isAgg5
  z5 := Tryd.sizeOf5
  v5 := Tryd.zeroValue5
  infoByte := by kernel_rfl
  cellsByte := by kernel_rfl
  sizeByte := by kernel_rfl
  neB5 := by decide }
open Go.RowKit Go.Lib in
theorem YtenldjifipnjpaaDoor.strings_Repeat (s : ByteArray) (c : Nat) (w : World) (hc : c ≤ 9223372036854775807) (hlen : s.size * c ≤ 140737488355328) :
    Calls Tryd.prog 73 #[.string s, .int .i64 c] w fun e w' => e = .returned (.string ⟨(Lib.repeatL s.data.toList c).toArray⟩) ∧ Below w.heap.size w w' := Any.strings_Repeat YtenldjifipnjpaaDoor.lays105 YtenldjifipnjpaaDoor.Builder_Extra_105 s c w hc hlen
end Go.Proofs
namespace Go.Proofs.YtenldjifipnjpaaDoor
open Go.RowKit
set_option linter.all false
def PV.le (p q : PV) : Prop := ∀ (g : Gh) (w : World) (v : Value), Rep g w p v → Rep g w q v
theorem PV.le_refl (p : PV) : p.le p := fun _ _ _ h => h
theorem PV.le.trans {p q r : PV} (h : p.le q) (h2 : q.le r) : p.le r := fun g w v hv => h2 g w v (h g w v hv)
theorem nil_le (k : Bool) (sz : Nat) : (PV.val (.slice none 0 0)).le (.lst k sz []) := fun g w v h => by
  simp only [Rep] at h ⊢
  subst h
  exact ⟨none, 0, rfl, Nat.le_refl _, by omega, .inl trivial⟩
def leL : List PV → List PV → Prop
  | [], [] => True
  | p :: ps, q :: qs => p.le q ∧ leL ps qs
  | _, _ => False
theorem leL_refl : ∀ (l : List PV), leL l l
  | [] => trivial
  | p :: l => ⟨p.le_refl, leL_refl l⟩
theorem leL_rep {g : Gh} {w : World} : ∀ {ps qs : List PV} {vs : List Value}, leL ps qs → RepL g w ps vs → RepL g w qs vs
  | [], [], vs, _, h => h
  | p :: ps, q :: qs, vs, hl, h => by
    simp only [RepL] at h ⊢
    obtain ⟨v, vs', rfl, h1, h2⟩ := h
    exact ⟨v, vs', rfl, hl.1 _ _ _ h1, leL_rep hl.2 h2⟩
  | [], _ :: _, vs, hl, _ => hl.elim
  | _ :: _, [], vs, hl, _ => hl.elim
theorem tup_le {ps qs : List PV} (h : leL ps qs) : (PV.tup ps).le (.tup qs) := fun g w v hv => by
  simp only [Rep] at hv ⊢
  obtain ⟨vs, rfl, h1⟩ := hv
  exact ⟨vs, rfl, leL_rep h h1⟩
theorem Sound.weak {P : Program} {f : Nat} {φ φ' : Fun} (h : Sound P f φ) (hw : ∀ ps r, φ' ps = some r → ∃ ps' r', leL ps ps' ∧ φ ps' = some r' ∧ r'.le r) : Sound P f φ' := by
  intro w J ps args r hr hJ hT hargs
  obtain ⟨ps', r', h1, h2, h3⟩ := hw ps r hr
  refine (h w J ps' args r' h2 hJ hT (leL_rep h1 hargs)).mono ?_
  rintro e w' ⟨v, rfl, hb, hrep⟩
  exact ⟨v, rfl, hb, fun g' hg => h3 _ _ _ (hrep g' hg)⟩
def nrm (sz : Nat) : PV → PV
  | .val (.slice none 0 0) => .lst false sz []
  | p => p
theorem le_nrm (sz : Nat) (p : PV) : p.le (nrm sz p) := by
  unfold nrm
  split
  · exact nil_le _ _
  · exact p.le_refl
theorem leL_nrm (sz : Nat) : ∀ ps : List PV, leL ps (ps.map (nrm sz))
  | [] => trivial
  | p :: ps => ⟨le_nrm sz p, leL_nrm sz ps⟩
def nilF (sz : Nat) (φ : Fun) : Fun := fun ps => φ (ps.map (nrm sz))
theorem Sound.nil {P : Program} {f : Nat} {φ : Fun} (h : Sound P f φ) (sz : Nat) : Sound P f (nilF sz φ) :=
  h.weak fun ps r hr => ⟨_, r, leL_nrm sz ps, hr, PV.le_refl _⟩
section
variable {P : Program} {Γ : Ctx}
end
theorem reify_nil0 {n f sz : Nat} {ob : Objs} {k : Bool} : reify false n ob (f + 1) (.lst k sz []) = some (.lst false sz []) := by simp [reify]
theorem reify_nil1 {n f sz : Nat} {ob : Objs} {k : Bool} : reify true n ob (f + 1) (.lst k sz []) = some (.lst true sz []) := by simp [reify]
attribute [push_cast]
  reify_nil0 reify_nil1
def nP (sz : Nat) (es : List PV) (x : Nat) : PV := match es with | [] => .val (.slice none 0 0) | _ :: _ => .row x sz 0 es.length
def nO (T sz : Nat) (es : List PV) (x : Nat) : List (Nat × CellIO) := match es with | [] => [] | _ :: _ => [(x, T, sz, es)]
theorem nP_nil {sz x : Nat} : nP sz [] x = .val (.slice none 0 0) := rfl
theorem nO_nil {T sz x : Nat} : nO T sz [] x = [] := rfl
theorem nP_pos {sz x : Nat} {es : List PV} (h : 0 < es.length) : nP sz es x = .row x sz 0 es.length := by
  cases es with
  | nil => simp at h
  | cons e es => rfl
theorem nO_pos {T sz x : Nat} {es : List PV} (h : 0 < es.length) : nO T sz es x = [(x, T, sz, es)] := by
  cases es with
  | nil => simp at h
  | cons e es => rfl
attribute [push_cast]
  nP_nil nO_nil
attribute [push_cast low]
  nP_pos nO_pos
theorem bp_addS {P : Program} {t : Nat} {x y : Operand} {a b : ByteArray} (h : a.size + b.size ≤ 9223372036854775807) : binP P .add t x y (some (.string a)) (some (.string b)) = some (.val (.string (a ++ b))) := by
  have h2 : ¬ (((a.size + b.size : Nat) : Int) > IntKind.i64.max) := by
    have : IntKind.i64.max = 9223372036854775807 := by decide
    rw [this]
    omega
  have : pureRun P (do eqGuard .add t x y (.string a) (.string b); binOp .add t (.string a) (.string b)) = some (.string (a ++ b)) := by
    show pureRun P (Op.stringOp .add a b) = _
    unfold Op.stringOp
    dsimp only
    rw [if_neg h2]
    rfl
  simp only [binP, this, Option.map_some]
theorem size_push (ns : List Int) (r : ByteArray) : (ns.foldl (fun r n => r.push (UInt8.ofNat n.toNat)) r).size = r.size + ns.length := by
  induction ns generalizing r with
  | nil => simp
  | cons n ns ih => rw [List.foldl_cons, ih, List.length_cons, ByteArray.size_push]; omega
theorem size_bytesOf (ns : List Int) : (bytesOf ns).size = ns.length := by
  unfold bytesOf
  rw [size_push]
  simp
attribute [push_cast]
  bp_addS size_bytesOf ByteArray.size_append byteNs
def joinB (l : List ByteArray) (sep : ByteArray) : ByteArray := ⟨(Lib.join (l.map (·.data.toList)) sep.data.toList).toArray⟩
def φJoin : Fun := F2 dSs dS fun l sep => if l.length ≤ 1048576 ∧ (joinB l sep).size ≤ 140737488355328 then some (.val (.string (joinB l sep))) else none
theorem φJoin_ap {l : List ByteArray} {sep : ByteArray} (h : l.length ≤ 1048576) (h2 : (joinB l sep).size ≤ 140737488355328) : φJoin [.lst false 1 (l.map fun s => .val (.string s)), .val (.string sep)] = some (.val (.string (joinB l sep))) :=
  (F2_ap (A := dSs) (B := dS) l sep).trans (if_pos ⟨h, h2⟩)
theorem str_cells {g : Gh} {w : World} {b off : Nat} {l : List ByteArray} (h : RepEs g w 1 (l.map fun s => PV.val (.string s)) b off) : ∀ (j : Nat) x, l[j]? = some x → w.cell? ⟨b, off + j, none⟩ = some (.string x) := fun j x hx => by
  obtain ⟨u, h1, h2, _⟩ := h.get (i := j) (e := .val (.string x)) (by simp [hx])
  simp only [Rep] at h1
  subst h1
  have := h2.2 0 (by simp [Value.cells])
  simpa [Value.cells] using this
theorem sound_join {P : Program} {f : Nat} (H0 : ∀ (a : Option Addr) (c : Nat) (sep : ByteArray) (w : World), Calls P f #[.slice a 0 c, .string sep] w fun e w' => e = .returned (.string ⟨#[]⟩) ∧ w' = w)
    (H1 : ∀ (bk o c : Nat) (xs : List ByteArray) (sep : ByteArray) (w : World), (∀ (j : Nat) x, xs[j]? = some x → w.cell? ⟨bk, o + j, none⟩ = some (.string x)) → bk < w.heap.size → xs.length ≤ 140737488355328 → xs.length ≤ c → (Lib.join (xs.map (·.data.toList)) sep.data.toList).length ≤ 140737488355328 →
      Calls P f #[.slice (some ⟨bk, o, none⟩) xs.length c, .string sep] w fun e w' => e = .returned (.string ⟨(Lib.join (xs.map (·.data.toList)) sep.data.toList).toArray⟩) ∧ Below w.heap.size w w') : Sound P f φJoin := by
  intro w J ps args r hr hJ hT hargs
  obtain ⟨l, sep, rfl, hq⟩ := F2_some hr
  split at hq
  case isFalse => cases hq
  case isTrue hok =>
  cases hq
  have hargs := hargs
  simp only [RepL] at hargs
  obtain ⟨v1, vs1, e1, h1, v2, vs2, rfl, h2, rfl⟩ := hargs
  obtain rfl : args = #[v1, v2] := by
    obtain ⟨a⟩ := args
    simp only at e1
    rw [e1]
  simp only [dSs, dL, dS, Rep] at h1 h2
  subst h2
  obtain ⟨a, cap, rfl, k1, k2, k3⟩ := h1
  simp only [List.length_map] at k1 ⊢
  have hsz : (joinB l sep).size = (Lib.join (l.map (·.data.toList)) sep.data.toList).length := by simp [joinB, ByteArray.size]
  rcases k3 with k3 | ⟨b, off, rfl, k4, k5⟩
  · have : l = [] := by simpa using k3
    subst this
    refine (H0 a cap sep w).mono ?_
    rintro e w' ⟨rfl, rfl⟩
    exact ⟨_, rfl, Below.refl _ _, fun g' _ => by simp only [Rep]; rfl⟩
  · refine (H1 b off cap l sep w (str_cells k5) (hJ b k4.2) (by omega) k1 (by omega)).mono ?_
    rintro e w' ⟨rfl, hb⟩
    exact ⟨_, rfl, hb, fun g' _ => by simp only [Rep]; rfl⟩
theorem joinTail_len (sep : List UInt8) : ∀ (r : List (List UInt8)), (Lib.joinTail sep r).length = (r.map List.length).sum + r.length * sep.length
  | [] => by simp [Lib.joinTail]
  | x :: r => by
    have ih := joinTail_len sep r
    unfold Lib.joinTail at ih ⊢
    simp only [List.map_cons, List.flatten_cons, List.length_append, List.sum_cons, List.length_cons, ih, Nat.add_mul]
    omega
def sumS (l : List ByteArray) : Nat := (l.map (·.size)).sum
theorem joinB_size (l : List ByteArray) (sep : ByteArray) : (joinB l sep).size = sumS l + (l.length - 1) * sep.size := by
  have hsz : (joinB l sep).size = (Lib.join (l.map (·.data.toList)) sep.data.toList).length := by simp [joinB, ByteArray.size]
  rw [hsz]
  clear hsz
  have e : ∀ s : ByteArray, s.data.toList.length = s.size := fun s => Array.length_toList
  cases l with
  | nil => simp [Lib.join_nil, sumS]
  | cons x r =>
    rw [List.map_cons, Lib.join_cons, List.length_append, joinTail_len]
    simp only [List.map_map, List.length_map, sumS, List.map_cons, List.sum_cons, List.length_cons, Nat.add_sub_cancel, e]
    have h2 : (List.length ∘ fun x : ByteArray => x.data.toList) = fun x => x.size := funext fun s => e s
    rw [h2]
    omega
theorem sumS_le {l : List ByteArray} {c : Nat} (h : ∀ i : Nat, (l[i]?.getD .empty).size ≤ c) : sumS l ≤ l.length * c := by
  induction l with
  | nil => simp [sumS]
  | cons x l ih =>
    have h0 := h 0
    have := ih fun i => by simpa using h (i + 1)
    simp only [List.getElem?_cons_zero, Option.getD_some] at h0
    simp only [sumS, List.map_cons, List.sum_cons, List.length_cons, Nat.add_mul, Nat.one_mul] at this ⊢
    omega
theorem join_ok : Sound Tryd.prog 79 φJoin := sound_join YtenldjifipnjpaaDoor.strings_Join_none YtenldjifipnjpaaDoor.strings_Join
end Go.Proofs.YtenldjifipnjpaaDoor
namespace Go.Proofs.YtenldjifipnjpaaDoor
open Go.RowKit
set_option linter.all false
section
variable {P : Program} {Γ : Ctx}
end
theorem inn_0o {o : Nat} : inn [0, o] 0 = some 0 := by simp [inn]
theorem inn_1o {o : Nat} (h : 0 < o) : inn [0, o] o = some 1 := by
  have h0 : ¬ (0 : Nat) = o := by omega
  have h1 : (0 == o) = false := by simpa using h0
  simp [inn, List.idxOf_cons, h1]
theorem inn_no {o x : Nat} (h : 0 < x) (h2 : x ≠ o) : inn [0, o] x = none := by
  have h0 : ¬ x = 0 := by omega
  simp [inn, h0, h2]
theorem outF_1n {o nx : Nat} : outF [o] nx 1 = some nx := by simp [outF, outn]
theorem handM_fuel {out : List Nat} {ob : Objs} {l : List PV} : l.mapM (handF out ob fuel) = l.mapM (handF out ob 8) := rfl
attribute [push_cast]
  handM_fuel inn_0o inn_1o inn_no outF_1n
section
variable {P : Program} {Γ : Ctx} {imm : Md} {N : Nat} {gs : List (Option Nat)} {l : List Oper} {Q : AS → Prop} {tm : Nat → PV} {ob : Objs} {nx T : Nat} {Φ : FunIO} {B c : Int} {α : Type} {E : Nat → α → PV} {O : α → CellIO}
end
end Go.Proofs.YtenldjifipnjpaaDoor
namespace Go.Proofs.YtenldjifipnjpaaDoor
open Go.RowKit
set_option linter.all false
abbrev FunN := List PV → Option (PV × List CellIO)
def SoundN (P : Program) (f : Nat) (Ψ : FunN) : Prop := SoundIO P f fun ps cs => if cs = [] then Ψ ps else none
def pureN (Ψ : FunN) : Fun := fun ps => (Ψ ps).bind fun rc => reify true 0 (fun o => rc.2[o]?) fuel rc.1
theorem SoundN.pure {P : Program} {f : Nat} {Ψ : FunN} (h : SoundN P f Ψ) : Sound P f (pureN Ψ) := by
  intro w J ps args r hr hJ hT hargs
  unfold pureN at hr
  simp only [Option.bind_eq_some_iff] at hr
  obtain ⟨⟨r0, cs0⟩, h2, h3⟩ := hr
  dsimp only at h3
  let J' : Bool → Nat → Prop := fun k b => k = false ∧ J b
  have hO' : ObjsIO J' w (fun _ => 0) (fun _ => 0) [] := ⟨fun o ho => by simp at ho, fun o o' ho => by simp at ho, fun o c ho => by simp at ho⟩
  refine (h w J' (fun _ => 0) (fun _ => 0) ps [] args r0 cs0 (by simpa using h2) (fun k b hb => hJ b hb.2) hO' (hT.io fun t _ ⟨o, ho, _⟩ => by simp at ho) hargs).mono ?_
  rintro e w' ⟨v, β', κ', M, rfl, hfr, _, _, hnew, hM, hO2, hrep⟩
  refine ⟨v, rfl, ⟨hfr.os, hfr.tape, hfr.output, hfr.size, fun b hb => hfr.block b hb (fun ⟨o, ho, _⟩ => by simp at ho)⟩, fun g' hg => ?_⟩
  refine Rep.seen (fr := true) (n := 0) (s := initIO ps cs0) (g := ghIO (addN J' M) β' κ' cs0.length) (g' := g') (fun o c ho => hO2.at_ o c ho) ⟨fun e => (by cases e), fun _ => ⟨fun b hb => ?_, fun o ho _ => ?_⟩⟩ fuel _ _ _ hrep h3
  · rcases hb with ⟨h6, _⟩ | ⟨_, h6⟩
    · cases h6
    · exact hg b (hM b h6).1 (hM b h6).2
  · obtain ⟨c, hc⟩ := Option.isSome_iff_exists.1 ho
    have hlt := (List.getElem?_eq_some_iff.1 hc).1
    exact hg _ (hnew o (Nat.zero_le _) hlt) (hO2.lt o hlt).1
theorem SoundN.io {P : Program} {f : Nat} {Ψ : FunN} (h : SoundN P f Ψ) : SoundIO P f fun ps cs => if cs = [] then Ψ ps else none := h
section
variable {P : Program} {Γ : Ctx}
theorem sound_pqN (hm : P.follows .mixedOrders = true) {f : Nat} {fn : Func} {c : Code} {Ψ : FunN} (hΓ : SoundΓ P Γ) (hf : P.funcs[f]? = some fn) (hb : fn.body = some c) (N : Nat) (hN : fn.ntmps = N) (rs : List ResultVar) (hrs : fn.results.toList = rs) (hc : codeOk Γ true N c = true)
    (h : ∀ ps r cs', Ψ ps = some (r, cs') → ps.length ≤ N ∧ pq P Γ N c (PostIO P rs 0 r cs') (initS ps).tm noObs 0) : SoundN P f Ψ := by
  refine sound_pq0 hm hΓ hf hb N hN rs hrs hc fun ps cs r cs' hr => ?_
  split at hr
  · rename_i hcs
    exact ⟨hcs, h ps r cs' hr⟩
  · cases hr
end
section
variable {α β γ δ ρ : Type} {A : Dec α} {B : Dec β} {C : Dec γ} {D : Dec δ} {ps : List PV} {r : ρ}
def G1 (A : Dec α) (F : α → Option ρ) (ps : List PV) : Option ρ := match ps with | [p] => (A.d p).bind F | _ => none
def G2 (A : Dec α) (B : Dec β) (F : α → β → Option ρ) (ps : List PV) : Option ρ := match ps with | [p, q] => (A.d p).bind fun a => (B.d q).bind fun b => F a b | _ => none
theorem G1_some {F : α → Option ρ} (h : G1 A F ps = some r) : ∃ a, ps = [A.e a] ∧ F a = some r := by
  unfold G1 at h
  split at h
  · rw [Option.bind_eq_some_iff] at h
    obtain ⟨a, h1, h2⟩ := h
    exact ⟨a, by rw [A.h _ _ h1], h2⟩
  · cases h
theorem G2_some {F : α → β → Option ρ} (h : G2 A B F ps = some r) : ∃ a b, ps = [A.e a, B.e b] ∧ F a b = some r := by
  unfold G2 at h
  split at h
  · simp only [Option.bind_eq_some_iff] at h
    obtain ⟨a, h1, b, h2, h3⟩ := h
    exact ⟨a, b, by rw [A.h _ _ h1, B.h _ _ h2], h3⟩
  · cases h
theorem G1_ap {F : α → Option ρ} (a : α) : G1 A F [A.e a] = F a := by simp [G1, A.h']
theorem G2_ap {F : α → β → Option ρ} (a : α) (b : β) : G2 A B F [A.e a, B.e b] = F a b := by simp [G2, A.h', B.h']
end
def nC (T sz : Nat) (es : List PV) : List CellIO := match es with | [] => [] | _ :: _ => [(T, sz, es)]
theorem nC_pos {T sz : Nat} {es : List PV} (h : 0 < es.length) : nC T sz es = [(T, sz, es)] := by
  cases es with
  | nil => simp at h
  | cons e es => rfl
section
variable {Ψ : FunN} {α : Type} {g : α → Value} {l : List α} {T sz : Nat}
theorem pureN_of {ps : List PV} {cs0 : List CellIO} {r r1 : PV} (h2 : Ψ ps = some (r, cs0)) (h3 : reify true 0 (fun o => cs0[o]?) fuel r = some r1) : pureN Ψ ps = some r1 := by
  unfold pureN
  rw [h2, Option.bind_some, h3]
theorem ioR_two {ob : Objs} {nx o T T2 sz sz2 : Nat} {es es2 : List PV} {r : PV} : ioR [o] ob nx (some (r, [(T, sz, es), (T2, sz2, es2)])) = (renF (outF [o] nx) fuel r).bind fun r' => (es.mapM (renF (outF [o] nx) fuel)).bind fun es' => (es2.mapM (renF (outF [o] nx) fuel)).map fun es2' => (r', upd (upd ob o (some (T, sz, es'))) nx (some (T2, sz2, es2')), nx + 1) := by
  unfold ioR
  simp only [mapM_cons', mapM_nil', renC]
  cases renF (outF [o] nx) fuel r with
  | none => rfl
  | some r' =>
    cases es.mapM (renF (outF [o] nx) fuel) with
    | none => rfl
    | some es' =>
      cases es2.mapM (renF (outF [o] nx) fuel) with
      | none => rfl
      | some es2' => 
        simp only [Option.map_some, Option.bind_some, List.length_cons, List.length_nil, Nat.zero_add, Nat.reduceAdd, Nat.reduceSub, Option.some.injEq, Prod.mk.injEq, true_and, and_true]
        show putObs ob [(outn [o] nx 0, _), (outn [o] nx 1, _)] = _
        simp only [putObs, outn, List.length_cons, List.length_nil, Nat.zero_add, Nat.lt_one_iff, if_true, Nat.one_ne_zero, if_false, Nat.sub_self, Nat.add_zero, List.getD_cons_zero]
end
theorem renM_fuel {nm : Nat → Option Nat} {l : List PV} : l.mapM (renF nm fuel) = l.mapM (renF nm 8) := rfl
attribute [push_cast]
  ioR_two renM_fuel
section
variable {P : Program} {Γ : Ctx}
end
section
variable {P : Program} {tm : Nat → PV} {ob : Objs} {nx : Nat} {rs : List ResultVar} {r : PV} {c' : CellIO} {x : X} {R : PV → List CellIO → Prop}
end
end Go.Proofs.YtenldjifipnjpaaDoor
namespace Go.Proofs.YtenldjifipnjpaaDoor
open Go.RowKit
set_option linter.unusedVariables false
def inB (n a b : Int) : Bool := decide (a ≤ n) && decide (n ≤ b)
theorem inB_iff {n a b : Int} : inB n a b = true ↔ a ≤ n ∧ n ≤ b := by simp [inB]
theorem below_trans {a w w' : World} (h : Below a.heap.size a w) (k : Below w.heap.size w w') : Below a.heap.size a w' :=
  h.trans (k.mono h.size)
theorem below_alloc {a w : World} {o : Obj} (h : Below a.heap.size a w) : Below a.heap.size a (w.alloc o) := h.alloc h.size o
def OwnC (w : World) (b : Nat) (cs : Array Value) (T : Nat) : Prop := w.heap[b]? = some (.cells cs T (0, 0))
theorem OwnC.facts {w : World} {b : Nat} {cs : Array Value} {T : Nat} (h : OwnC w b cs T) : (∀ j, w.cell? ⟨b, j, none⟩ = cs[j]?) ∧ (∀ j, w.frozen? ⟨b, j, none⟩ = false) ∧ b < w.heap.size := by
  unfold OwnC at h
  exact ⟨fun j => by simp [World.cell?, h], fun j => by simp [World.frozen?, h], (Array.getElem?_eq_some_iff.1 h).1⟩
theorem OwnC.lt {w : World} {b : Nat} {cs : Array Value} {T : Nat} (h : OwnC w b cs T) : b < w.heap.size := h.facts.2.2
theorem OwnC.new (w : World) (cs : Array Value) (T : Nat) : OwnC (w.alloc (.cells cs T)) w.heap.size cs T := heap_alloc_new w _
theorem OwnC.grown {w w' : World} {b : Nat} {cs : Array Value} {T : Nat} (h : OwnC w b cs T) {r : Option Nat} (hg : w.grownBy w' r) (hr : some b ≠ r) : OwnC w' b cs T := by
  unfold OwnC; rw [hg.block b h.lt hr]; exact h
theorem OwnC.below {w w' : World} {b : Nat} {cs : Array Value} {T : Nat} (h : OwnC w b cs T) (hb : Below w.heap.size w w') : OwnC w' b cs T := by
  unfold OwnC; rw [hb.block b h.lt]; exact h
theorem OwnC.alloc {w : World} {b : Nat} {cs : Array Value} {T : Nat} (h : OwnC w b cs T) (o : Obj) : OwnC (w.alloc o) b cs T :=
  h.below ((Below.refl _ _).alloc (Nat.le_refl _) o)
theorem OwnC.drew {w : World} {b : Nat} {cs : Array Value} {T : Nat} (h : OwnC w b cs T) : OwnC w.drew b cs T := h
theorem OwnC.set {w : World} {b : Nat} {cs : Array Value} {T : Nat} (h : OwnC w b cs T) (j : Nat) (u : Value) : OwnC (w.setCell ⟨b, j, none⟩ u) b (cs.setIfInBounds j u) T := by
  unfold OwnC at *; simp [World.setCell, Array.getElem?_modify, h]
def Sl (w : World) (k : Nat) (v : Value) (n : Nat) (cs : List Value) : Prop :=
  ∃ a cap b off, v = .slice a n cap ∧ cs.length = n * k ∧ n ≤ cap ∧ cap ≤ maxLen ∧ (0 < n → a = some ⟨b, off, none⟩) ∧ ∀ i, i < n * k → w.cell? ⟨b, off + i, none⟩ = cs[i]?
theorem Sl.below {w w' : World} {k : Nat} {v : Value} {n : Nat} {cs : List Value} (h : Sl w k v n cs) (hb : Below w.heap.size w w') : Sl w' k v n cs := by
  obtain ⟨a, cap, b, off, h1, h2, h3, h4, h5, h6⟩ := h
  refine ⟨a, cap, b, off, h1, h2, h3, h4, h5, fun i hi => ?_⟩
  have hc := h6 i hi
  have hs : cs[i]? = some (cs[i]'(by omega)) := List.getElem?_eq_getElem _
  rw [hs] at hc ⊢
  rw [hb.cell (p := ⟨b, off + i, none⟩) (World.block_lt_of_cell? w _ hc)]
  exact hc
theorem Sl.grown {w w' : World} {k : Nat} {v : Value} {n : Nat} {cs : List Value} {r : Option Nat} (h : Sl w k v n cs) (hb : w.grownBy w' r) (hne : 0 < n → v.ownBlock ≠ r) : Sl w' k v n cs := by
  obtain ⟨a, cap, b, off, h1, h2, h3, h4, h5, h6⟩ := h
  refine ⟨a, cap, b, off, h1, h2, h3, h4, h5, fun i hi => ?_⟩
  have hc := h6 i hi
  have hn : 0 < n := by
    rcases Nat.eq_zero_or_pos n with h0 | h0
    · simp [h0] at hi
    · exact h0
  have hs : cs[i]? = some (cs[i]'(by omega)) := List.getElem?_eq_getElem _
  rw [hs] at hc ⊢
  refine hb.cell hc ?_
  have := hne hn
  rw [h1, h5 hn] at this
  simpa [Value.ownBlock] using this
end Go.Proofs.YtenldjifipnjpaaDoor
namespace Go.Proofs.YtenldjifipnjpaaDoor
open Go.RowKit
set_option linter.unusedVariables false
structure IntsAt (w : World) (a : Option Addr) (n cap : Nat) (zs : List Int) : Prop where
  len : zs.length = n
  le_cap : n ≤ cap
  cap_max : cap ≤ 9223372036854775807
  rng : ∀ i : Nat, -9223372036854775808 ≤ zs[i]?.getD 0 ∧ zs[i]?.getD 0 ≤ 9223372036854775807
  at_ : 0 < n → ∃ b off, a = some ⟨b, off, none⟩ ∧ ∀ i : Nat, i < n → w.cell? ⟨b, off + i, none⟩ = some (.int .i64 (zs[i]?.getD 0))
theorem IntsAt.below {w w' : World} {a : Option Addr} {n cap : Nat} {zs : List Int} (h : IntsAt w a n cap zs) (hb : Below w.heap.size w w') : IntsAt w' a n cap zs :=
  ⟨h.len, h.le_cap, h.cap_max, h.rng, fun h0 => by
    obtain ⟨b, off, rfl, hc⟩ := h.at_ h0
    exact ⟨b, off, rfl, fun i hi => (hb.cell (World.block_lt_of_cell? w _ (hc i hi))).trans (hc i hi)⟩⟩
structure StrsAt (w : World) (a : Option Addr) (n cap : Nat) (ss : List ByteArray) : Prop where
  len : ss.length = n
  le_cap : n ≤ cap
  cap_max : cap ≤ 9223372036854775807
  rng : ∀ i : Nat, (ss[i]?.getD ByteArray.empty).size ≤ 9223372036854775807
  at_ : 0 < n → ∃ b off, a = some ⟨b, off, none⟩ ∧ ∀ i : Nat, i < n → w.cell? ⟨b, off + i, none⟩ = some (.string (ss[i]?.getD ByteArray.empty))
theorem StrsAt.below {w w' : World} {a : Option Addr} {n cap : Nat} {ss : List ByteArray} (h : StrsAt w a n cap ss) (hb : Below w.heap.size w w') : StrsAt w' a n cap ss :=
  ⟨h.len, h.le_cap, h.cap_max, h.rng, fun h0 => by
    obtain ⟨b, off, rfl, hc⟩ := h.at_ h0
    exact ⟨b, off, rfl, fun i hi => (hb.cell (World.block_lt_of_cell? w _ (hc i hi))).trans (hc i hi)⟩⟩
end Go.Proofs.YtenldjifipnjpaaDoor
namespace Go.Proofs.YtenldjifipnjpaaDoor
open Go.RowKit
set_option linter.all false
noncomputable def GE : Ctx := ⟨fun f => none, fun f => none⟩
theorem GE_ok : SoundΓ Tryd.prog GE := ⟨(fun f φ h => by
  unfold GE at h
  dsimp only at h
  cases h), (fun f φ h => by
  unfold GE at h
  dsimp only at h
  cases h)⟩
def φIn : Fun := F3 dI dI dI fun n a b => some (bv (inB n a b))
theorem φIn_ap (n a b : Int) : φIn [.val (.int .i64 n), .val (.int .i64 a), .val (.int .i64 b)] = some (.val (.bool (inB n a b))) := rfl
theorem l1In_ok : Sound Tryd.prog 58 φIn := by
  refine sound_pq mixed GE_ok Tryd.func58 rfl 15 rfl [.tmp 6] rfl (by kernel_rfl) fun ps r hr => ?_
  obtain ⟨n, a, b, rfl, hr⟩ := F3_some hr
  cases hr
  refine ⟨by simp, ?_⟩
  simp only [dIs, dUs, dSs, dI_e, dU_e, dB_e, dS_e, dFn_e, dL_e, dA2_e, dA3_e, dA4_e, dA5_e]
  repeat' (first | (with_reducible first | apply i_seq | apply i_block | apply i_skip | apply i_exit | apply i_ret | apply i_kS | apply i_kSx | apply i_kSr | apply i_kL | apply i_kLx | apply i_kLr | apply i_kB | apply i_kBr | apply i_kBs | apply i_nil) | ((with_reducible apply i_region); (focus (simp only [List.map_cons, List.map_nil] <;> exact rfl))) | ((with_reducible apply i_draw); (focus (simp only [List.map_cons, List.map_nil] <;> exact rfl)); (focus (decide +kernel))) | ((with_reducible apply i_kBo); (focus rfl)) | ((first | ((with_reducible apply i_V); (focus rfl); (focus rfl); (focus rfl)) | ((with_reducible apply i_E); (focus rfl); (focus (first | rfl | (simp only [push_cast, ↓reduceIte, effOk, touch, refsOf, List.flatMap_cons, List.flatMap_nil])))) | ((with_reducible apply i_S); (focus rfl); (focus (first | rfl | (simp only [push_cast, ↓reduceIte, effOk, touch, refsOf, List.flatMap_cons, List.flatMap_nil])))) | ((with_reducible apply i_Vq); (focus rfl); (focus rfl)) | ((with_reducible apply i_Vp); (focus rfl); (focus rfl); (focus rfl)) | (with_reducible first | apply i_Gb | apply i_cond)); (focus (simp (disch := (first | omega | (simp only [push_cast]; done) | (simp only [push_cast]; omega) | ((try simp only [push_cast]); (with_reducible first | apply sel_lt | apply sel_ge); (focus decide); (focus (simp only [push_cast]; omega))))) only [push_cast, ↓reduceIte, Nat.reduceEqDiff, Nat.reduceBEq, Nat.reduceAdd, Nat.reduceSub, Int.reduceToNat, *] <;> with_reducible exact rfl)); all_goals try (intro hX; first | (cases hX; done) | ((with_reducible first | have hX0 : true = true := hX | have hX0 : false = false := hX); clear hX0 hX) | ((try simp only [decide_eq_true_eq, decide_eq_false_iff_not, Bool.not_eq_true', Bool.not_eq_false'] at hX); (try have hXb := inB_iff.1 hX)))))
  all_goals ((first | apply i_end | apply i_endN); simp (disch := (first | omega | (simp only [push_cast]; done) | (simp only [push_cast]; omega) | ((try simp only [push_cast]); (with_reducible first | apply sel_lt | apply sel_ge); (focus decide); (focus (simp only [push_cast]; omega))))) only [push_cast, ↓reduceIte, Nat.reduceEqDiff, Nat.reduceBEq, Nat.reduceAdd, Nat.reduceSub, Int.reduceToNat, *])
  all_goals (first | (simp_all [inB]; done) | (simp_all [inB]; omega))
theorem in_ok : Sound Tryd.prog 65 φIn := by
  refine sound_pq mixed GE_ok Tryd.func65 rfl 15 rfl [.tmp 6] rfl (by kernel_rfl) fun ps r hr => ?_
  obtain ⟨n, a, b, rfl, hr⟩ := F3_some hr
  cases hr
  refine ⟨by simp, ?_⟩
  simp only [dIs, dUs, dSs, dI_e, dU_e, dB_e, dS_e, dFn_e, dL_e, dA2_e, dA3_e, dA4_e, dA5_e]
  repeat' (first | (with_reducible first | apply i_seq | apply i_block | apply i_skip | apply i_exit | apply i_ret | apply i_kS | apply i_kSx | apply i_kSr | apply i_kL | apply i_kLx | apply i_kLr | apply i_kB | apply i_kBr | apply i_kBs | apply i_nil) | ((with_reducible apply i_region); (focus (simp only [List.map_cons, List.map_nil] <;> exact rfl))) | ((with_reducible apply i_draw); (focus (simp only [List.map_cons, List.map_nil] <;> exact rfl)); (focus (decide +kernel))) | ((with_reducible apply i_kBo); (focus rfl)) | ((first | ((with_reducible apply i_V); (focus rfl); (focus rfl); (focus rfl)) | ((with_reducible apply i_E); (focus rfl); (focus (first | rfl | (simp only [push_cast, ↓reduceIte, effOk, touch, refsOf, List.flatMap_cons, List.flatMap_nil])))) | ((with_reducible apply i_S); (focus rfl); (focus (first | rfl | (simp only [push_cast, ↓reduceIte, effOk, touch, refsOf, List.flatMap_cons, List.flatMap_nil])))) | ((with_reducible apply i_Vq); (focus rfl); (focus rfl)) | ((with_reducible apply i_Vp); (focus rfl); (focus rfl); (focus rfl)) | (with_reducible first | apply i_Gb | apply i_cond)); (focus (simp (disch := (first | omega | (simp only [push_cast]; done) | (simp only [push_cast]; omega) | ((try simp only [push_cast]); (with_reducible first | apply sel_lt | apply sel_ge); (focus decide); (focus (simp only [push_cast]; omega))))) only [push_cast, ↓reduceIte, Nat.reduceEqDiff, Nat.reduceBEq, Nat.reduceAdd, Nat.reduceSub, Int.reduceToNat, *] <;> with_reducible exact rfl)); all_goals try (intro hX; first | (cases hX; done) | ((with_reducible first | have hX0 : true = true := hX | have hX0 : false = false := hX); clear hX0 hX) | ((try simp only [decide_eq_true_eq, decide_eq_false_iff_not, Bool.not_eq_true', Bool.not_eq_false'] at hX); (try have hXb := inB_iff.1 hX)))))
  all_goals ((first | apply i_end | apply i_endN); simp (disch := (first | omega | (simp only [push_cast]; done) | (simp only [push_cast]; omega) | ((try simp only [push_cast]); (with_reducible first | apply sel_lt | apply sel_ge); (focus decide); (focus (simp only [push_cast]; omega))))) only [push_cast, ↓reduceIte, Nat.reduceEqDiff, Nat.reduceBEq, Nat.reduceAdd, Nat.reduceSub, Int.reduceToNat, *])
  all_goals (first | (simp_all [inB]; done) | (simp_all [inB]; omega))
end Go.Proofs.YtenldjifipnjpaaDoor
namespace Go.Proofs.YtenldjifipnjpaaDoor
open Go.RowKit
set_option linter.all false
def wordB (s : ByteArray) : Bool := (List.range s.size).all (fun k => inB (at8 s k) 97 122) && inB s.size 1 20
theorem wordB_no {s : ByteArray} {k : Nat} (h : k < s.size) (hb : ¬ (97 ≤ at8 s k ∧ at8 s k ≤ 122)) : wordB s = false := by
  unfold wordB
  have : (List.range s.size).all (fun k => inB (at8 s k) 97 122) = false := by
    rw [List.all_eq_false]
    exact ⟨k, List.mem_range.2 h, by rw [inB_iff]; exact hb⟩
  rw [this]
  rfl
theorem wordB_yes {s : ByteArray} (h : ∀ j, j < s.size → 97 ≤ at8 s j ∧ at8 s j ≤ 122) : wordB s = inB s.size 1 20 := by
  unfold wordB
  have : (List.range s.size).all (fun k => inB (at8 s k) 97 122) = true := by
    rw [List.all_eq_true]
    intro k hk
    exact inB_iff.2 (h k (List.mem_range.1 hk))
  rw [this]
  rfl
def φWord : Fun := F1 dS fun s => if s.size ≤ 1099511627776 then some (bv (wordB s)) else none
theorem φWord_ap {s : ByteArray} (h : s.size ≤ 1099511627776) : φWord [.val (.string s)] = some (.val (.bool (wordB s))) :=
  (F1_ap (A := dS) s).trans (if_pos h)
def φSmall : Fun := F1 dU fun n => some (bv (inB n 97 122))
theorem φSmall_ap (n : Int) : φSmall [.val (.int .u8 n)] = some (.val (.bool (inB n 97 122))) := rfl
theorem isSmall_ok : Sound Tryd.prog 114 φSmall := by
  refine sound_pq mixed GE_ok Tryd.func114 rfl 9 rfl [.tmp 2] rfl (by kernel_rfl) fun ps r hr => ?_
  obtain ⟨n, rfl, hr⟩ := F1_some hr
  cases hr
  refine ⟨by simp, ?_⟩
  simp only [dIs, dUs, dSs, dI_e, dU_e, dB_e, dS_e, dFn_e, dL_e, dA2_e, dA3_e, dA4_e, dA5_e]
  repeat' (first | (with_reducible first | apply i_seq | apply i_block | apply i_skip | apply i_exit | apply i_ret | apply i_kS | apply i_kSx | apply i_kSr | apply i_kL | apply i_kLx | apply i_kLr | apply i_kB | apply i_kBr | apply i_kBs | apply i_nil) | ((with_reducible apply i_region); (focus (simp only [List.map_cons, List.map_nil] <;> exact rfl))) | ((with_reducible apply i_draw); (focus (simp only [List.map_cons, List.map_nil] <;> exact rfl)); (focus (decide +kernel))) | ((with_reducible apply i_kBo); (focus rfl)) | ((first | ((with_reducible apply i_V); (focus rfl); (focus rfl); (focus rfl)) | ((with_reducible apply i_E); (focus rfl); (focus (first | rfl | (simp only [push_cast, ↓reduceIte, effOk, touch, refsOf, List.flatMap_cons, List.flatMap_nil])))) | ((with_reducible apply i_S); (focus rfl); (focus (first | rfl | (simp only [push_cast, ↓reduceIte, effOk, touch, refsOf, List.flatMap_cons, List.flatMap_nil])))) | ((with_reducible apply i_Vq); (focus rfl); (focus rfl)) | ((with_reducible apply i_Vp); (focus rfl); (focus rfl); (focus rfl)) | (with_reducible first | apply i_Gb | apply i_cond)); (focus (simp (disch := (first | omega | (simp only [push_cast]; done) | (simp only [push_cast]; omega) | ((try simp only [push_cast]); (with_reducible first | apply sel_lt | apply sel_ge); (focus decide); (focus (simp only [push_cast]; omega))))) only [push_cast, ↓reduceIte, Nat.reduceEqDiff, Nat.reduceBEq, Nat.reduceAdd, Nat.reduceSub, Int.reduceToNat, *] <;> with_reducible exact rfl)); all_goals try (intro hX; first | (cases hX; done) | ((with_reducible first | have hX0 : true = true := hX | have hX0 : false = false := hX); clear hX0 hX) | ((try simp only [decide_eq_true_eq, decide_eq_false_iff_not, Bool.not_eq_true', Bool.not_eq_false'] at hX); (try have hXb := inB_iff.1 hX)))))
  all_goals ((first | apply i_end | apply i_endN); simp (disch := (first | omega | (simp only [push_cast]; done) | (simp only [push_cast]; omega) | ((try simp only [push_cast]); (with_reducible first | apply sel_lt | apply sel_ge); (focus decide); (focus (simp only [push_cast]; omega))))) only [push_cast, ↓reduceIte, Nat.reduceEqDiff, Nat.reduceBEq, Nat.reduceAdd, Nat.reduceSub, Int.reduceToNat, *])
  all_goals (first | (simp_all [inB]; done) | (simp_all [inB]; omega))
noncomputable def GWv : Ctx := ⟨fun f => if f = 114 then some φSmall else if f = 65 then some φIn else none, fun f => none⟩
theorem GWv_ok : SoundΓ Tryd.prog GWv := ⟨(fun f φ h => by
  unfold GWv at h
  dsimp only at h
  split at h
  · rename_i hf; cases h; subst hf; exact ⟨⟨_, Tryd.func114, rfl, rfl⟩, isSmall_ok⟩
  split at h
  · rename_i hf; cases h; subst hf; exact ⟨⟨_, Tryd.func65, rfl, rfl⟩, in_ok⟩
  cases h), (fun f φ h => by
  unfold GWv at h
  dsimp only at h
  cases h)⟩
theorem GWv_114 (ob : Objs) (ps : List PV) : evCall GWv ob 114 ps = (ps.mapM (reify false 0 ob fuel)).bind φSmall := by
  have h : GWv.fn 114 = some φSmall := by simp [GWv]
  unfold evCall
  rw [h]
  cases ps.mapM (reify false 0 ob fuel) <;> rfl
theorem GWv_65 (ob : Objs) (ps : List PV) : evCall GWv ob 65 ps = (ps.mapM (reify false 0 ob fuel)).bind φIn := by
  have h : GWv.fn 65 = some φIn := by simp [GWv]
  unfold evCall
  rw [h]
  cases ps.mapM (reify false 0 ob fuel) <;> rfl
set_option maxHeartbeats 4000000 in
theorem implWordValid_ok : Sound Tryd.prog 99 φWord := by
  refine sound_pq mixed GWv_ok Tryd.func99 rfl 18 rfl [.tmp 2] rfl (by kernel_rfl) fun ps r hr => ?_
  obtain ⟨s, rfl, hq⟩ := F1_some hr
  clear hr
  split at hq
  case isFalse => cases hq
  case isTrue hlen =>
  cases hq
  refine ⟨by simp, ?_⟩
  simp only [dIs, dUs, dSs, dI_e, dU_e, dB_e, dS_e, dFn_e, dL_e, dA2_e, dA3_e, dA4_e, dA5_e]
  have gwv_c114 := GWv_114; have gwv_c65 := GWv_65; have ap := φSmall_ap; have ap2 := φIn_ap
  repeat' (first | (with_reducible first | apply i_seq | apply i_block | apply i_skip | apply i_exit | apply i_ret | apply i_kS | apply i_kSx | apply i_kSr | apply i_kL | apply i_kLx | apply i_kLr | apply i_kB | apply i_kBr | apply i_kBs | apply i_nil) | ((with_reducible apply i_region); (focus (simp only [List.map_cons, List.map_nil] <;> exact rfl))) | ((with_reducible apply i_draw); (focus (simp only [List.map_cons, List.map_nil] <;> exact rfl)); (focus (decide +kernel))) | ((with_reducible apply i_kBo); (focus rfl)) | ((first | ((with_reducible apply i_V); (focus rfl); (focus rfl); (focus rfl)) | ((with_reducible apply i_E); (focus rfl); (focus (first | rfl | (simp only [push_cast, ↓reduceIte, effOk, touch, refsOf, List.flatMap_cons, List.flatMap_nil])))) | ((with_reducible apply i_S); (focus rfl); (focus (first | rfl | (simp only [push_cast, ↓reduceIte, effOk, touch, refsOf, List.flatMap_cons, List.flatMap_nil])))) | ((with_reducible apply i_Vq); (focus rfl); (focus rfl)) | ((with_reducible apply i_Vp); (focus rfl); (focus rfl); (focus rfl)) | (with_reducible first | apply i_Gb | apply i_cond)); (focus (simp (disch := (first | omega | (simp only [push_cast]; done) | (simp only [push_cast]; omega) | ((try simp only [push_cast]); (with_reducible first | apply sel_lt | apply sel_ge); (focus decide); (focus (simp only [push_cast]; omega))))) only [push_cast, ↓reduceIte, Nat.reduceEqDiff, Nat.reduceBEq, Nat.reduceAdd, Nat.reduceSub, Int.reduceToNat, *] <;> with_reducible exact rfl)); all_goals try (intro hX; first | (cases hX; done) | ((with_reducible first | have hX0 : true = true := hX | have hX0 : false = false := hX); clear hX0 hX) | ((try simp only [decide_eq_true_eq, decide_eq_false_iff_not, Bool.not_eq_true', Bool.not_eq_false'] at hX); (try have hXb := inB_iff.1 hX)))))
  refine i_loop (α := Nat) mixed (fun k => [(0, sv s), (5, iv s.size), (6, iv k)]) (fun _ => []) (fun _ => 0)
    (fun k => k ≤ s.size ∧ ∀ j, j < k → 97 ≤ at8 s j ∧ at8 s j ≤ 122) (fun k => s.size - k) (by kernel_rfl) 0 ⟨Nat.zero_le _, fun j hj => by omega⟩ ?_ trivial rfl ?_
  · simp only [push_cast, ↓reduceIte, Nat.reduceEqDiff, Nat.reduceBEq, Nat.reduceAdd, Nat.reduceSub, Int.reduceToNat]
  · intro k ⟨hk, hok⟩
    have hrk := at8_rng s k
    repeat' (first | (with_reducible first | apply i_seq | apply i_block | apply i_skip | apply i_exit | apply i_ret | apply i_kS | apply i_kSx | apply i_kSr | apply i_kL | apply i_kLx | apply i_kLr | apply i_kB | apply i_kBr | apply i_kBs | apply i_nil) | ((with_reducible apply i_region); (focus (simp only [List.map_cons, List.map_nil] <;> exact rfl))) | ((with_reducible apply i_draw); (focus (simp only [List.map_cons, List.map_nil] <;> exact rfl)); (focus (decide +kernel))) | ((with_reducible apply i_kBo); (focus rfl)) | ((first | ((with_reducible apply i_V); (focus rfl); (focus rfl); (focus rfl)) | ((with_reducible apply i_E); (focus rfl); (focus (first | rfl | (simp only [push_cast, ↓reduceIte, effOk, touch, refsOf, List.flatMap_cons, List.flatMap_nil])))) | ((with_reducible apply i_S); (focus rfl); (focus (first | rfl | (simp only [push_cast, ↓reduceIte, effOk, touch, refsOf, List.flatMap_cons, List.flatMap_nil])))) | ((with_reducible apply i_Vq); (focus rfl); (focus rfl)) | ((with_reducible apply i_Vp); (focus rfl); (focus rfl); (focus rfl)) | (with_reducible first | apply i_Gb | apply i_cond)); (focus (simp (disch := (first | omega | (simp only [push_cast]; done) | (simp only [push_cast]; omega) | ((try simp only [push_cast]); (with_reducible first | apply sel_lt | apply sel_ge); (focus decide); (focus (simp only [push_cast]; omega))))) only [push_cast, ↓reduceIte, Nat.reduceEqDiff, Nat.reduceBEq, Nat.reduceAdd, Nat.reduceSub, Int.reduceToNat, *] <;> with_reducible exact rfl)); all_goals try (intro hX; first | (cases hX; done) | ((with_reducible first | have hX0 : true = true := hX | have hX0 : false = false := hX); clear hX0 hX) | ((try simp only [decide_eq_true_eq, decide_eq_false_iff_not, Bool.not_eq_true', Bool.not_eq_false'] at hX); (try have hXb := inB_iff.1 hX)))))
    all_goals try ((first | apply i_end | apply i_endN); simp (disch := (first | omega | (simp only [push_cast]; done) | (simp only [push_cast]; omega) | ((try simp only [push_cast]); (with_reducible first | apply sel_lt | apply sel_ge); (focus decide); (focus (simp only [push_cast]; omega))))) only [push_cast, ↓reduceIte, Nat.reduceEqDiff, Nat.reduceBEq, Nat.reduceAdd, Nat.reduceSub, Int.reduceToNat, *])
    · rw [wordB_no (s := s) (k := k) (by omega) (by (simp_all [inB]; try omega))]
    · refine ⟨k + 1, ⟨by omega, fun j hj => ?_⟩, by dsimp only; omega, by simp only [push_cast, ↓reduceIte, Nat.reduceEqDiff, Nat.reduceBEq, Nat.reduceAdd, Nat.reduceSub, Int.reduceToNat], trivial, rfl⟩
      by_cases h1 : j < k
      · exact hok j h1
      · have : j = k := by omega
        subst this
        simp_all [inB]
    · rw [wordB_yes fun j hj => hok j (by omega)]
noncomputable def GWs : Ctx := ⟨fun f => if f = 58 then some φIn else none, fun f => none⟩
theorem GWs_ok : SoundΓ Tryd.prog GWs := ⟨(fun f φ h => by
  unfold GWs at h
  dsimp only at h
  split at h
  · rename_i hf; cases h; subst hf; exact ⟨⟨_, Tryd.func58, rfl, rfl⟩, l1In_ok⟩
  cases h), (fun f φ h => by
  unfold GWs at h
  dsimp only at h
  cases h)⟩
theorem GWs_58 (ob : Objs) (ps : List PV) : evCall GWs ob 58 ps = (ps.mapM (reify false 0 ob fuel)).bind φIn := by
  have h : GWs.fn 58 = some φIn := by simp [GWs]
  unfold evCall
  rw [h]
  cases ps.mapM (reify false 0 ob fuel) <;> rfl
set_option maxHeartbeats 4000000 in
theorem specWordValid_ok : Sound Tryd.prog 100 φWord := by
  refine sound_pq mixed GWs_ok Tryd.func100 rfl 23 rfl [.tmp 2] rfl (by kernel_rfl) fun ps r hr => ?_
  obtain ⟨s, rfl, hq⟩ := F1_some hr
  clear hr
  split at hq
  case isFalse => cases hq
  case isTrue hlen =>
  cases hq
  refine ⟨by simp, ?_⟩
  simp only [dIs, dUs, dSs, dI_e, dU_e, dB_e, dS_e, dFn_e, dL_e, dA2_e, dA3_e, dA4_e, dA5_e]
  have gws_c58 := GWs_58; have ap2 := φIn_ap
  repeat' (first | (with_reducible first | apply i_seq | apply i_block | apply i_skip | apply i_exit | apply i_ret | apply i_kS | apply i_kSx | apply i_kSr | apply i_kL | apply i_kLx | apply i_kLr | apply i_kB | apply i_kBr | apply i_kBs | apply i_nil) | ((with_reducible apply i_region); (focus (simp only [List.map_cons, List.map_nil] <;> exact rfl))) | ((with_reducible apply i_draw); (focus (simp only [List.map_cons, List.map_nil] <;> exact rfl)); (focus (decide +kernel))) | ((with_reducible apply i_kBo); (focus rfl)) | ((first | ((with_reducible apply i_V); (focus rfl); (focus rfl); (focus rfl)) | ((with_reducible apply i_E); (focus rfl); (focus (first | rfl | (simp only [push_cast, ↓reduceIte, effOk, touch, refsOf, List.flatMap_cons, List.flatMap_nil])))) | ((with_reducible apply i_S); (focus rfl); (focus (first | rfl | (simp only [push_cast, ↓reduceIte, effOk, touch, refsOf, List.flatMap_cons, List.flatMap_nil])))) | ((with_reducible apply i_Vq); (focus rfl); (focus rfl)) | ((with_reducible apply i_Vp); (focus rfl); (focus rfl); (focus rfl)) | (with_reducible first | apply i_Gb | apply i_cond)); (focus (simp (disch := (first | omega | (simp only [push_cast]; done) | (simp only [push_cast]; omega) | ((try simp only [push_cast]); (with_reducible first | apply sel_lt | apply sel_ge); (focus decide); (focus (simp only [push_cast]; omega))))) only [push_cast, ↓reduceIte, Nat.reduceEqDiff, Nat.reduceBEq, Nat.reduceAdd, Nat.reduceSub, Int.reduceToNat, *] <;> with_reducible exact rfl)); all_goals try (intro hX; first | (cases hX; done) | ((with_reducible first | have hX0 : true = true := hX | have hX0 : false = false := hX); clear hX0 hX) | ((try simp only [decide_eq_true_eq, decide_eq_false_iff_not, Bool.not_eq_true', Bool.not_eq_false'] at hX); (try have hXb := inB_iff.1 hX)))))
  refine i_loop (α := Nat) mixed (fun k => [(0, sv s), (3, iv k)]) (fun _ => []) (fun _ => 0)
    (fun k => k ≤ s.size ∧ ∀ j, j < k → 97 ≤ at8 s j ∧ at8 s j ≤ 122) (fun k => s.size - k) (by kernel_rfl) 0 ⟨Nat.zero_le _, fun j hj => by omega⟩ ?_ trivial rfl ?_
  · simp only [push_cast, ↓reduceIte, Nat.reduceEqDiff, Nat.reduceBEq, Nat.reduceAdd, Nat.reduceSub, Int.reduceToNat]
  · intro k ⟨hk, hok⟩
    have hrk := at8_rng s k
    repeat' (first | (with_reducible first | apply i_seq | apply i_block | apply i_skip | apply i_exit | apply i_ret | apply i_kS | apply i_kSx | apply i_kSr | apply i_kL | apply i_kLx | apply i_kLr | apply i_kB | apply i_kBr | apply i_kBs | apply i_nil) | ((with_reducible apply i_region); (focus (simp only [List.map_cons, List.map_nil] <;> exact rfl))) | ((with_reducible apply i_draw); (focus (simp only [List.map_cons, List.map_nil] <;> exact rfl)); (focus (decide +kernel))) | ((with_reducible apply i_kBo); (focus rfl)) | ((first | ((with_reducible apply i_V); (focus rfl); (focus rfl); (focus rfl)) | ((with_reducible apply i_E); (focus rfl); (focus (first | rfl | (simp only [push_cast, ↓reduceIte, effOk, touch, refsOf, List.flatMap_cons, List.flatMap_nil])))) | ((with_reducible apply i_S); (focus rfl); (focus (first | rfl | (simp only [push_cast, ↓reduceIte, effOk, touch, refsOf, List.flatMap_cons, List.flatMap_nil])))) | ((with_reducible apply i_Vq); (focus rfl); (focus rfl)) | ((with_reducible apply i_Vp); (focus rfl); (focus rfl); (focus rfl)) | (with_reducible first | apply i_Gb | apply i_cond)); (focus (simp (disch := (first | omega | (simp only [push_cast]; done) | (simp only [push_cast]; omega) | ((try simp only [push_cast]); (with_reducible first | apply sel_lt | apply sel_ge); (focus decide); (focus (simp only [push_cast]; omega))))) only [push_cast, ↓reduceIte, Nat.reduceEqDiff, Nat.reduceBEq, Nat.reduceAdd, Nat.reduceSub, Int.reduceToNat, *] <;> with_reducible exact rfl)); all_goals try (intro hX; first | (cases hX; done) | ((with_reducible first | have hX0 : true = true := hX | have hX0 : false = false := hX); clear hX0 hX) | ((try simp only [decide_eq_true_eq, decide_eq_false_iff_not, Bool.not_eq_true', Bool.not_eq_false'] at hX); (try have hXb := inB_iff.1 hX)))))
    all_goals try ((first | apply i_end | apply i_endN); simp (disch := (first | omega | (simp only [push_cast]; done) | (simp only [push_cast]; omega) | ((try simp only [push_cast]); (with_reducible first | apply sel_lt | apply sel_ge); (focus decide); (focus (simp only [push_cast]; omega))))) only [push_cast, ↓reduceIte, Nat.reduceEqDiff, Nat.reduceBEq, Nat.reduceAdd, Nat.reduceSub, Int.reduceToNat, *])
    all_goals try (rw [wordB_no (s := s) (k := k) (by omega) (by omega)]; done)
    all_goals try (rw [wordB_yes fun j hj => hok j (by omega)]; done)
    all_goals
      refine ⟨k + 1, ⟨by omega, fun j hj => ?_⟩, by dsimp only; omega, by simp only [push_cast, ↓reduceIte, Nat.reduceEqDiff, Nat.reduceBEq, Nat.reduceAdd, Nat.reduceSub, Int.reduceToNat], trivial, rfl⟩
      by_cases h1 : j < k
      · exact hok j h1
      · have : j = k := by omega
        subst this
        simp_all
        try omega
end Go.Proofs.YtenldjifipnjpaaDoor
namespace Go.Proofs.YtenldjifipnjpaaDoor
open Go.RowKit
set_option linter.all false
abbrev LS := List ByteArray
section
variable {α β : Type} {n sz sz' f i : Nat} {ob : Objs} {k k' fr : Bool} {l : List LS}
theorem get_ss {g : LS → PV} (h : i < l.length) : ((l[i]?).map g).getD .dead = g ((l[i]?).getD []) := by simp [h]
theorem omg_ss {g : LS → β} (h : i < l.length) : Option.map g l[i]? = some (g ((l[i]?).getD [])) := by simp [h]
theorem mapM_maps {F : PV → Option PV} {g g' : α → PV} (h : ∀ x, F (g x) = some (g' x)) : ∀ {l : List α}, (l.map g).mapM F = some (l.map g')
  | [] => rfl
  | x :: l => by rw [List.map_cons, List.mapM_cons, h x, mapM_maps h]; rfl
theorem reify_strs {m : Nat} {p : LS} : reify false m ob (f + 2) (.lst k sz (p.map fun s => .val (.string s))) = some (.lst false sz (p.map fun s => .val (.string s))) := reifyS_vals
theorem reify_strsT {m : Nat} {p : LS} : reify fr m ob (f + 2) (.lst true sz (p.map fun s => .val (.string s))) = some (.lst fr sz (p.map fun s => .val (.string s))) := by
  cases fr
  · exact reifyS_vals
  · exact reifyT_vals
theorem reifyS_lsts : reify false n ob (f + 3) (.lst k sz (l.map fun p => .lst k' sz' (p.map fun s => .val (.string s)))) = some (.lst false sz (l.map fun p => .lst false sz' (p.map fun s => .val (.string s)))) := by
  show (if false = true ∧ k = false ∧ (l.map fun p => PV.lst k' sz' (p.map fun s => PV.val (.string s))) ≠ [] then none else ((l.map fun p => PV.lst k' sz' (p.map fun s => PV.val (.string s))).mapM (reify false n ob (f + 2))).map (PV.lst false sz)) = _
  rw [mapM_maps (g' := fun p => PV.lst false sz' (p.map fun s => PV.val (.string s))) fun p => reify_strs]
  simp
theorem reifyT_lsts : reify true n ob (f + 3) (.lst true sz (l.map fun p => .lst true sz' (p.map fun s => .val (.string s)))) = some (.lst true sz (l.map fun p => .lst true sz' (p.map fun s => .val (.string s)))) := by
  show (if true = true ∧ true = false ∧ (l.map fun p => PV.lst true sz' (p.map fun s => PV.val (.string s))) ≠ [] then none else ((l.map fun p => PV.lst true sz' (p.map fun s => PV.val (.string s))).mapM (reify true n ob (f + 2))).map (PV.lst true sz)) = _
  rw [mapM_maps (g' := fun p => PV.lst true sz' (p.map fun s => PV.val (.string s))) fun p => reify_strsT]
  simp
theorem rowRe_lsts {m T : Nat} (hm : m = l.length) : rowRe fr (f + 2) ob sz 0 m (some (T, sz, l.map fun p => .lst true sz' (p.map fun s => .val (.string s)))) = some (.lst fr sz (l.map fun p => .lst fr sz' (p.map fun s => .val (.string s)))) := by
  subst hm
  have e : ((l.map fun p => PV.lst true sz' (p.map fun s => PV.val (.string s))).drop 0).take l.length = l.map fun p => PV.lst true sz' (p.map fun s => PV.val (.string s)) := by
    rw [List.drop_zero, List.take_of_length_le (by simp)]
  have e2 := mapM_maps (l := l) (F := reify fr 0 ob (f + 2)) (g := fun p => PV.lst true sz' (p.map fun s => PV.val (.string s))) (g' := fun p => PV.lst fr sz' (p.map fun s => PV.val (.string s))) fun p => reify_strsT
  simp only [rowRe, e, e2, Nat.zero_add, List.length_map, Nat.le_refl, and_self, if_true, Option.map_some]
end
attribute [push_cast]
  get_ss omg_ss reifyS_lsts reifyT_lsts rowRe_lsts
theorem eq_of_getDK {α : Type} {d : α} {xs ys : List α} (hl : xs.length = ys.length) (h : ∀ j, j < xs.length → xs[j]?.getD d = ys[j]?.getD d) : xs = ys := by
  apply List.ext_getElem hl
  intro i h1 h2
  have := h i h1
  simpa [h1, h2] using this
abbrev okSs (l : LS) : Prop := l.length ≤ 1048576 ∧ ∀ i : Nat, (l[i]?.getD .empty).size ≤ 1048576
noncomputable instance (l : LS) : Decidable (okSs l) := Classical.propDecidable _
theorem all_noK {α : Type} {d : α} {p : α → Bool} {l : List α} {k : Nat} (h : k < l.length) (hb : p (l[k]?.getD d) = false) : l.all p = false := by
  rw [List.all_eq_false]
  exact ⟨l[k], List.getElem_mem h, by simp [h] at hb; simp [hb]⟩
theorem all_yesK {α : Type} {d : α} {p : α → Bool} {l : List α} (h : ∀ j, j < l.length → p (l[j]?.getD d) = true) : l.all p = true := by
  rw [List.all_eq_true]
  intro x hx
  obtain ⟨j, hj, rfl⟩ := List.getElem_of_mem hx
  simpa [hj] using h j hj
def smallC (c : Int) : Bool := inB c 97 122
def digC (c : Int) : Bool := inB c 48 57
def prevD (s : ByteArray) (k : Nat) : Bool := decide (0 < k) && digC (at8 s (k - 1))
def patAt (s : ByteArray) (k : Nat) : Bool := smallC (at8 s k) || (digC (at8 s k) && !prevD s k) || (decide (at8 s k = 46) && (decide (k = 0) || decide (k + 1 = s.size)))
def anyS (s : ByteArray) (k : Nat) : Bool := (List.range k).any fun j => smallC (at8 s j)
def patB (s : ByteArray) : Bool := (List.range s.size).all (patAt s) && (anyS s s.size && decide (s.size ≤ 12))
theorem patB_yes {s : ByteArray} (h : ∀ j, j < s.size → patAt s j = true) : patB s = (anyS s s.size && decide (s.size ≤ 12)) := by
  have : (List.range s.size).all (patAt s) = true := by
    rw [List.all_eq_true]
    exact fun k hk => h k (List.mem_range.1 hk)
  simp [patB, this]
structure PatI (s : ByteArray) (k : Nat) (n : Int) : Prop where
  kk : k ≤ s.size
  n0 : 0 ≤ n
  n1 : n ≤ k
  all : ∀ j, j < k → patAt s j = true
  any : decide (0 < n) = anyS s k
theorem PatI.zero (s : ByteArray) : PatI s 0 0 := ⟨Nat.zero_le _, by omega, by omega, fun j hj => by omega, rfl⟩
theorem PatI.done {s : ByteArray} {k : Nat} {n : Int} (h : PatI s k n) (hk : ¬ k < s.size) : patB s = (decide (0 < n) && decide (s.size ≤ 12)) := by
  have hk2 := h.kk
  have : k = s.size := by omega
  subst this
  rw [patB_yes h.all, h.any]
def allWords (l : LS) : Bool := decide (l.length ≤ 12) && l.all wordB
noncomputable def φWords : Fun := F1 dSs fun l => if okSs l then some (bv (allWords l)) else none
theorem φWords_ap {l : LS} (h : okSs l) : φWords [.lst false 1 (l.map fun s => .val (.string s))] = some (.val (.bool (allWords l))) :=
  (F1_ap (A := dSs) l).trans (if_pos h)
noncomputable def GSWords : Ctx := ⟨fun f => if f = 100 then some φWord else none, fun f => none⟩
theorem GSWords_ok : SoundΓ Tryd.prog GSWords := ⟨(fun f φ h => by
  unfold GSWords at h
  dsimp only at h
  split at h
  · rename_i hf; cases h; subst hf; exact ⟨⟨_, Tryd.func100, rfl, rfl⟩, specWordValid_ok⟩
  cases h), (fun f φ h => by
  unfold GSWords at h
  dsimp only at h
  cases h)⟩
theorem GSWords_100 (ob : Objs) (ps : List PV) : evCall GSWords ob 100 ps = (ps.mapM (reify false 0 ob fuel)).bind φWord := by
  have h : GSWords.fn 100 = some φWord := by simp [GSWords]
  unfold evCall
  rw [h]
  cases ps.mapM (reify false 0 ob fuel) <;> rfl
set_option maxHeartbeats 4000000 in
theorem specWordsValid_ok : Sound Tryd.prog 80 φWords := by
  refine sound_pq mixed GSWords_ok Tryd.func80 rfl 19 rfl [.tmp 2] rfl (by kernel_rfl) fun ps r hr => ?_
  obtain ⟨l, rfl, hq⟩ := F1_some hr
  clear hr
  split at hq
  case isFalse => cases hq
  case isTrue hok =>
  cases hq
  obtain ⟨hlen, hsz⟩ := hok
  refine ⟨by simp, ?_⟩
  simp only [dIs, dUs, dSs, dI_e, dU_e, dB_e, dS_e, dFn_e, dL_e, dA2_e, dA3_e, dA4_e, dA5_e]
  have gswords_c100 := GSWords_100
  repeat' (first | (with_reducible first | apply i_seq | apply i_block | apply i_skip | apply i_exit | apply i_ret | apply i_kS | apply i_kSx | apply i_kSr | apply i_kL | apply i_kLx | apply i_kLr | apply i_kB | apply i_kBr | apply i_kBs | apply i_nil) | ((with_reducible apply i_region); (focus (simp only [List.map_cons, List.map_nil] <;> exact rfl))) | ((with_reducible apply i_draw); (focus (simp only [List.map_cons, List.map_nil] <;> exact rfl)); (focus (decide +kernel))) | ((with_reducible apply i_kBo); (focus rfl)) | ((first | ((with_reducible apply i_V); (focus rfl); (focus rfl); (focus rfl)) | ((with_reducible apply i_E); (focus rfl); (focus (first | rfl | (simp only [push_cast, ↓reduceIte, effOk, touch, refsOf, List.flatMap_cons, List.flatMap_nil])))) | ((with_reducible apply i_S); (focus rfl); (focus (first | rfl | (simp only [push_cast, ↓reduceIte, effOk, touch, refsOf, List.flatMap_cons, List.flatMap_nil])))) | ((with_reducible apply i_Vq); (focus rfl); (focus rfl)) | ((with_reducible apply i_Vp); (focus rfl); (focus rfl); (focus rfl)) | (with_reducible first | apply i_Gb | apply i_cond)); (focus (simp (disch := (first | omega | (simp only [push_cast]; done) | (simp only [push_cast]; omega) | ((try simp only [push_cast]); (with_reducible first | apply sel_lt | apply sel_ge); (focus decide); (focus (simp only [push_cast]; omega))))) only [push_cast, ↓reduceIte, Nat.reduceEqDiff, Nat.reduceBEq, Nat.reduceAdd, Nat.reduceSub, Int.reduceToNat, *] <;> with_reducible exact rfl)); all_goals try (intro hX; first | (cases hX; done) | ((with_reducible first | have hX0 : true = true := hX | have hX0 : false = false := hX); clear hX0 hX) | ((try simp only [decide_eq_true_eq, decide_eq_false_iff_not, Bool.not_eq_true', Bool.not_eq_false'] at hX); (try have hXb := inB_iff.1 hX)))))
  refine i_loop (α := Nat) mixed (fun k => [(0, .lst false 1 (l.map fun s => .val (.string s))), (3, iv k)]) (fun _ => []) (fun _ => 0)
    (fun k => k ≤ l.length ∧ ∀ j, j < k → wordB (l[j]?.getD .empty) = true) (fun k => l.length - k) (by kernel_rfl) 0 ⟨Nat.zero_le _, fun j hj => by omega⟩ ?_ trivial rfl ?_
  · simp only [push_cast, ↓reduceIte, Nat.reduceEqDiff, Nat.reduceBEq, Nat.reduceAdd, Nat.reduceSub, Int.reduceToNat]
  · intro k ⟨hk, hok⟩
    have ap := @φWord_ap (l[k]?.getD .empty) (by have := hsz k; omega)
    clear hsz
    repeat' (first | (with_reducible first | apply i_seq | apply i_block | apply i_skip | apply i_exit | apply i_ret | apply i_kS | apply i_kSx | apply i_kSr | apply i_kL | apply i_kLx | apply i_kLr | apply i_kB | apply i_kBr | apply i_kBs | apply i_nil) | ((with_reducible apply i_region); (focus (simp only [List.map_cons, List.map_nil] <;> exact rfl))) | ((with_reducible apply i_draw); (focus (simp only [List.map_cons, List.map_nil] <;> exact rfl)); (focus (decide +kernel))) | ((with_reducible apply i_kBo); (focus rfl)) | ((first | ((with_reducible apply i_V); (focus rfl); (focus rfl); (focus rfl)) | ((with_reducible apply i_E); (focus rfl); (focus (first | rfl | (simp only [push_cast, ↓reduceIte, effOk, touch, refsOf, List.flatMap_cons, List.flatMap_nil])))) | ((with_reducible apply i_S); (focus rfl); (focus (first | rfl | (simp only [push_cast, ↓reduceIte, effOk, touch, refsOf, List.flatMap_cons, List.flatMap_nil])))) | ((with_reducible apply i_Vq); (focus rfl); (focus rfl)) | ((with_reducible apply i_Vp); (focus rfl); (focus rfl); (focus rfl)) | (with_reducible first | apply i_Gb | apply i_cond)); (focus (simp (disch := (first | omega | (simp only [push_cast]; done) | (simp only [push_cast]; omega) | ((try simp only [push_cast]); (with_reducible first | apply sel_lt | apply sel_ge); (focus decide); (focus (simp only [push_cast]; omega))))) only [push_cast, ↓reduceIte, Nat.reduceEqDiff, Nat.reduceBEq, Nat.reduceAdd, Nat.reduceSub, Int.reduceToNat, *] <;> with_reducible exact rfl)); all_goals try (intro hX; first | (cases hX; done) | ((with_reducible first | have hX0 : true = true := hX | have hX0 : false = false := hX); clear hX0 hX) | ((try simp only [decide_eq_true_eq, decide_eq_false_iff_not, Bool.not_eq_true', Bool.not_eq_false'] at hX); (try have hXb := inB_iff.1 hX)))))
    all_goals try ((first | apply i_end | apply i_endN); simp (disch := (first | omega | (simp only [push_cast]; done) | (simp only [push_cast]; omega) | ((try simp only [push_cast]); (with_reducible first | apply sel_lt | apply sel_ge); (focus decide); (focus (simp only [push_cast]; omega))))) only [push_cast, ↓reduceIte, Nat.reduceEqDiff, Nat.reduceBEq, Nat.reduceAdd, Nat.reduceSub, Int.reduceToNat, *])
    · rw [show allWords l = false from by (unfold allWords; rw [all_noK (d := .empty) (k := k) (by omega) (by simp_all), Bool.and_false])]
    · refine ⟨k + 1, ⟨by omega, fun j hj => ?_⟩, by dsimp only; omega, by simp only [push_cast, ↓reduceIte, Nat.reduceEqDiff, Nat.reduceBEq, Nat.reduceAdd, Nat.reduceSub, Int.reduceToNat], trivial, rfl⟩
      by_cases h1 : j < k
      · exact hok j h1
      · have : j = k := by omega
        subst this
        simp_all
    · rw [show allWords l = decide (l.length ≤ 12) from by (unfold allWords; rw [all_yesK (d := .empty) fun j hj => hok j (by omega), Bool.and_true])]
      simp
      omega
noncomputable def GIWords : Ctx := ⟨fun f => if f = 99 then some φWord else none, fun f => none⟩
theorem GIWords_ok : SoundΓ Tryd.prog GIWords := ⟨(fun f φ h => by
  unfold GIWords at h
  dsimp only at h
  split at h
  · rename_i hf; cases h; subst hf; exact ⟨⟨_, Tryd.func99, rfl, rfl⟩, implWordValid_ok⟩
  cases h), (fun f φ h => by
  unfold GIWords at h
  dsimp only at h
  cases h)⟩
theorem GIWords_99 (ob : Objs) (ps : List PV) : evCall GIWords ob 99 ps = (ps.mapM (reify false 0 ob fuel)).bind φWord := by
  have h : GIWords.fn 99 = some φWord := by simp [GIWords]
  unfold evCall
  rw [h]
  cases ps.mapM (reify false 0 ob fuel) <;> rfl
set_option maxHeartbeats 4000000 in
theorem implWordsValid_ok : Sound Tryd.prog 76 φWords := by
  refine sound_pq mixed GIWords_ok Tryd.func76 rfl 18 rfl [.tmp 2] rfl (by kernel_rfl) fun ps r hr => ?_
  obtain ⟨l, rfl, hq⟩ := F1_some hr
  clear hr
  split at hq
  case isFalse => cases hq
  case isTrue hok =>
  cases hq
  obtain ⟨hlen, hsz⟩ := hok
  refine ⟨by simp, ?_⟩
  simp only [dIs, dUs, dSs, dI_e, dU_e, dB_e, dS_e, dFn_e, dL_e, dA2_e, dA3_e, dA4_e, dA5_e]
  have giwords_c99 := GIWords_99
  repeat' (first | (with_reducible first | apply i_seq | apply i_block | apply i_skip | apply i_exit | apply i_ret | apply i_kS | apply i_kSx | apply i_kSr | apply i_kL | apply i_kLx | apply i_kLr | apply i_kB | apply i_kBr | apply i_kBs | apply i_nil) | ((with_reducible apply i_region); (focus (simp only [List.map_cons, List.map_nil] <;> exact rfl))) | ((with_reducible apply i_draw); (focus (simp only [List.map_cons, List.map_nil] <;> exact rfl)); (focus (decide +kernel))) | ((with_reducible apply i_kBo); (focus rfl)) | ((first | ((with_reducible apply i_V); (focus rfl); (focus rfl); (focus rfl)) | ((with_reducible apply i_E); (focus rfl); (focus (first | rfl | (simp only [push_cast, ↓reduceIte, effOk, touch, refsOf, List.flatMap_cons, List.flatMap_nil])))) | ((with_reducible apply i_S); (focus rfl); (focus (first | rfl | (simp only [push_cast, ↓reduceIte, effOk, touch, refsOf, List.flatMap_cons, List.flatMap_nil])))) | ((with_reducible apply i_Vq); (focus rfl); (focus rfl)) | ((with_reducible apply i_Vp); (focus rfl); (focus rfl); (focus rfl)) | (with_reducible first | apply i_Gb | apply i_cond)); (focus (simp (disch := (first | omega | (simp only [push_cast]; done) | (simp only [push_cast]; omega) | ((try simp only [push_cast]); (with_reducible first | apply sel_lt | apply sel_ge); (focus decide); (focus (simp only [push_cast]; omega))))) only [push_cast, ↓reduceIte, Nat.reduceEqDiff, Nat.reduceBEq, Nat.reduceAdd, Nat.reduceSub, Int.reduceToNat, *] <;> with_reducible exact rfl)); all_goals try (intro hX; first | (cases hX; done) | ((with_reducible first | have hX0 : true = true := hX | have hX0 : false = false := hX); clear hX0 hX) | ((try simp only [decide_eq_true_eq, decide_eq_false_iff_not, Bool.not_eq_true', Bool.not_eq_false'] at hX); (try have hXb := inB_iff.1 hX)))))
  refine i_loop (α := Nat) mixed (fun k => [(0, .lst false 1 (l.map fun s => .val (.string s))), (5, .lst false 1 (l.map fun s => .val (.string s))), (6, iv l.length), (7, iv k)]) (fun _ => []) (fun _ => 0)
    (fun k => k ≤ l.length ∧ ∀ j, j < k → wordB (l[j]?.getD .empty) = true) (fun k => l.length - k) (by kernel_rfl) 0 ⟨Nat.zero_le _, fun j hj => by omega⟩ ?_ trivial rfl ?_
  · simp only [push_cast, ↓reduceIte, Nat.reduceEqDiff, Nat.reduceBEq, Nat.reduceAdd, Nat.reduceSub, Int.reduceToNat]
  · intro k ⟨hk, hok⟩
    have ap := @φWord_ap (l[k]?.getD .empty) (by have := hsz k; omega)
    clear hsz
    repeat' (first | (with_reducible first | apply i_seq | apply i_block | apply i_skip | apply i_exit | apply i_ret | apply i_kS | apply i_kSx | apply i_kSr | apply i_kL | apply i_kLx | apply i_kLr | apply i_kB | apply i_kBr | apply i_kBs | apply i_nil) | ((with_reducible apply i_region); (focus (simp only [List.map_cons, List.map_nil] <;> exact rfl))) | ((with_reducible apply i_draw); (focus (simp only [List.map_cons, List.map_nil] <;> exact rfl)); (focus (decide +kernel))) | ((with_reducible apply i_kBo); (focus rfl)) | ((first | ((with_reducible apply i_V); (focus rfl); (focus rfl); (focus rfl)) | ((with_reducible apply i_E); (focus rfl); (focus (first | rfl | (simp only [push_cast, ↓reduceIte, effOk, touch, refsOf, List.flatMap_cons, List.flatMap_nil])))) | ((with_reducible apply i_S); (focus rfl); (focus (first | rfl | (simp only [push_cast, ↓reduceIte, effOk, touch, refsOf, List.flatMap_cons, List.flatMap_nil])))) | ((with_reducible apply i_Vq); (focus rfl); (focus rfl)) | ((with_reducible apply i_Vp); (focus rfl); (focus rfl); (focus rfl)) | (with_reducible first | apply i_Gb | apply i_cond)); (focus (simp (disch := (first | omega | (simp only [push_cast]; done) | (simp only [push_cast]; omega) | ((try simp only [push_cast]); (with_reducible first | apply sel_lt | apply sel_ge); (focus decide); (focus (simp only [push_cast]; omega))))) only [push_cast, ↓reduceIte, Nat.reduceEqDiff, Nat.reduceBEq, Nat.reduceAdd, Nat.reduceSub, Int.reduceToNat, *] <;> with_reducible exact rfl)); all_goals try (intro hX; first | (cases hX; done) | ((with_reducible first | have hX0 : true = true := hX | have hX0 : false = false := hX); clear hX0 hX) | ((try simp only [decide_eq_true_eq, decide_eq_false_iff_not, Bool.not_eq_true', Bool.not_eq_false'] at hX); (try have hXb := inB_iff.1 hX)))))
    all_goals try ((first | apply i_end | apply i_endN); simp (disch := (first | omega | (simp only [push_cast]; done) | (simp only [push_cast]; omega) | ((try simp only [push_cast]); (with_reducible first | apply sel_lt | apply sel_ge); (focus decide); (focus (simp only [push_cast]; omega))))) only [push_cast, ↓reduceIte, Nat.reduceEqDiff, Nat.reduceBEq, Nat.reduceAdd, Nat.reduceSub, Int.reduceToNat, *])
    · rw [show allWords l = false from by (unfold allWords; rw [all_noK (d := .empty) (k := k) (by omega) (by simp_all), Bool.and_false])]
    · refine ⟨k + 1, ⟨by omega, fun j hj => ?_⟩, by dsimp only; omega, by simp only [push_cast, ↓reduceIte, Nat.reduceEqDiff, Nat.reduceBEq, Nat.reduceAdd, Nat.reduceSub, Int.reduceToNat], trivial, rfl⟩
      by_cases h1 : j < k
      · exact hok j h1
      · have : j = k := by omega
        subst this
        simp_all
    · rw [show allWords l = decide (l.length ≤ 12) from by (unfold allWords; rw [all_yesK (d := .empty) fun j hj => hok j (by omega), Bool.and_true])]
      simp
      omega
end Go.Proofs.YtenldjifipnjpaaDoor
namespace Go.Proofs.YtenldjifipnjpaaDoor
open Go.RowKit
set_option linter.all false
theorem map_app' {α β : Type} {f : α → β} {l l' : List α} : l.map f ++ l'.map f = (l ++ l').map f := List.map_append.symm
theorem min_l {a b : Nat} (h : a ≤ b) : min a b = a := Nat.min_eq_left h
attribute [push_cast]
  map_app' min_l List.take_length
theorem strI_take {s : ByteArray} : (strI s).take s.size = strI s := List.take_of_length_le (by rw [strI_length]; exact Nat.le_refl _)
attribute [push_cast]
  strI_take
theorem io_ag {Φ : FunIO} {ob : Objs} {nx : Nat} {u : Value} {k : Bool} {sz : Nat} {α : Type} {g : α → Value} {l : List α} : ioEv Φ ob nx [.agg [.val u, .lst k sz (l.map fun x => PV.val (g x))]] = ioR [] ob nx (Φ [.agg [.val u, .lst k sz (l.map fun x => PV.val (g x))]] []) :=
  ioNo_of rfl (by simp only [mapM_cons', mapM_nil', renS_fuel, renS_agg, renS_val, renS_vals]; rfl)
attribute [push_cast]
  io_ag
end Go.Proofs.YtenldjifipnjpaaDoor
namespace Go.Proofs.YtenldjifipnjpaaDoor
open Go.RowKit
set_option linter.all false
section
variable {Φ : FunIO} {ob : Objs} {nx o sz i n : Nat} {u u2 v v2 v3 : Value}
theorem io_gr2 : ioEv Φ ob nx [.agg [.val u, .row o sz i n], .val v] = ioOne Φ ob nx o [.agg [.val u, .row 0 sz i n], .val v] (ob o) := ioOne_of (by simp [refsOf, dedup]) (by simp only [mapM_cons', mapM_nil', renS_fuel, renS_agg, renS_row, renS_val, inn_self]; rfl)
theorem io_gr4 : ioEv Φ ob nx [.agg [.val u, .row o sz i n], .val v, .val v2, .val v3] = ioOne Φ ob nx o [.agg [.val u, .row 0 sz i n], .val v, .val v2, .val v3] (ob o) := ioOne_of (by simp [refsOf, dedup]) (by simp only [mapM_cons', mapM_nil', renS_fuel, renS_agg, renS_row, renS_val, inn_self]; rfl)
theorem io_gn2 : ioEv Φ ob nx [.agg [.val u, .val u2], .val v] = ioR [] ob nx (Φ [.agg [.val u, .val u2], .val v] []) := ioNo_of rfl rfl
end
attribute [push_cast]
  io_gr2 io_gr4 io_gn2
end Go.Proofs.YtenldjifipnjpaaDoor
namespace Go.Proofs.YtenldjifipnjpaaDoor
open Go.RowKit
set_option linter.all false
theorem pr_bind {α β : Type} {P : Program} {m : Sem α} {f : α → Sem β} {a : α} (h : pureRun P m = some a) : pureRun P (m >>= f) = pureRun P (f a) := by
  induction m with
  | pure x => simp only [pureRun, Option.some.injEq] at h; subst h; rfl
  | program k ih => exact ih P h
  | _ => simp [pureRun] at h
theorem pr_bound {P : Program} {v : Int} {m : Nat} {k : BoundsCode} (h : 0 ≤ v) (h2 : v ≤ m) : pureRun P (Instr.sliceBound (.int .i64 v) m k) = some v.toNat := by
  have e : Instr.sliceBound (.int .i64 v) m k = (if 0 ≤ v ∧ v ≤ m then pure v.toNat else boundsPanic .i64 v m k) := rfl
  rw [e, if_pos ⟨h, h2⟩]
  rfl
theorem pr_und {P : Program} {t : Nat} {d : TypeDesc} (hu : P.underlying t = some d) : pureRun P (underlying t) = some d := by
  unfold underlying
  rw [pr_bind (a := P) rfl]
  simp only [hu]
  rfl
theorem sps {P : Program} {t : Nat} {s : ByteArray} {lo hi : Option Int} (hu : P.underlying t = some .string) (h0 : 0 ≤ lo.getD 0) (h1 : lo.getD 0 ≤ hi.getD s.size) (h2 : hi.getD s.size ≤ s.size) :
    slcP P t (.val (.string s)) (some lo) (some hi) = some (.val (.string (s.extract (lo.getD 0).toNat (hi.getD s.size).toNat))) := by
  have hb : pureRun P (Instr.sliceBounds false s.size s.size (lo.map (Value.int .i64)) (hi.map (Value.int .i64)) none) = some ((lo.getD 0).toNat, (hi.getD s.size).toNat, s.size) := by
    unfold Instr.sliceBounds
    rw [pr_bind (a := s.size) rfl]
    cases hi with
    | none =>
      simp only [Option.map_none, Option.getD_none] at h1 ⊢
      rw [pr_bind (a := s.size) rfl]
      cases lo with
      | none => simp only [Option.map_none, Option.getD_none, Int.toNat_natCast]; rw [pr_bind (a := 0) rfl]; rfl
      | some l => simp only [Option.map_some, Option.getD_some, Int.toNat_natCast] at h0 h1 ⊢; rw [pr_bind (pr_bound h0 h1)]; rfl
    | some h =>
      simp only [Option.map_some, Option.getD_some] at h1 h2 ⊢
      have h3 : 0 ≤ h := by omega
      rw [pr_bind (pr_bound h3 h2)]
      cases lo with
      | none => simp only [Option.map_none, Option.getD_none]; rw [pr_bind (a := 0) rfl]; rfl
      | some l => simp only [Option.map_some, Option.getD_some] at h0 h1 ⊢; rw [pr_bind (pr_bound h0 (by omega))]; rfl
  have hs : pureRun P (Instr.sliceAt t (.string s) (lo.map (Value.int .i64)) (hi.map (Value.int .i64)) none) = some (.string (s.extract (lo.getD 0).toNat (hi.getD s.size).toNat)) := by
    unfold Instr.sliceAt
    rw [pr_bind (pr_und hu)]
    dsimp only
    unfold Instr.slice
    rw [pr_bind (pr_und hu)]
    dsimp only
    simp only [Option.isSome_none, Bool.false_eq_true, if_false]
    rw [pr_bind hb]
    rfl
  show (pureRun P _).map _ = _
  rw [hs]
  rfl
theorem sps_str {s : ByteArray} {lo hi : Option Int} (h0 : 0 ≤ lo.getD 0) (h1 : lo.getD 0 ≤ hi.getD s.size) (h2 : hi.getD s.size ≤ s.size) :
    slcP Tryd.prog 9 (.val (.string s)) (some lo) (some hi) = some (.val (.string (s.extract (lo.getD 0).toNat (hi.getD s.size).toNat))) := sps Tryd.underlying9 h0 h1 h2
attribute [push_cast]
  sps_str
end Go.Proofs.YtenldjifipnjpaaDoor
namespace Go.Proofs.YtenldjifipnjpaaDoor
open Go.RowKit
set_option linter.all false
def refsA : List PV → List Nat
  | [] => []
  | .own o _ _ _ :: l => o :: refsA l
  | .row o _ _ _ :: l => o :: refsA l
  | _ :: l => refsA l
def refsX : PV → List Nat
  | .own o _ _ _ => [o]
  | .row o _ _ _ => [o]
  | .agg cs => refsA cs
  | _ => []
def refsL : List PV → List Nat
  | [] => []
  | p :: ps => refsX p ++ refsL ps
theorem refsA_eq : ∀ cs : List PV, (cs.flatMap fun c => match c with | .own o _ _ _ => [o] | .row o _ _ _ => [o] | _ => []) = refsA cs
  | [] => rfl
  | c :: cs => by
    rw [List.flatMap_cons, refsA_eq cs]
    cases c <;> rfl
theorem refsL_eq : ∀ ps : List PV, ps.flatMap refsOf = refsL ps
  | [] => rfl
  | p :: ps => by
    rw [List.flatMap_cons, refsL_eq ps]
    show _ = refsX p ++ refsL ps
    congr 1
    cases p with
    | agg cs => exact refsA_eq cs
    | _ => rfl
section
variable {Φ : FunIO} {ob : Objs} {nx : Nat}
def ioTwo (Φ : FunIO) (ob : Objs) (nx a b : Nat) (qs : List PV) : Option CellIO → Option CellIO → Option (PV × Objs × Nat)
  | some c, some d => (c.2.2.mapM (renF (inn [a, b]) fuel)).bind fun es => (d.2.2.mapM (renF (inn [a, b]) fuel)).bind fun fs => ioR [a, b] ob nx (Φ qs [(c.1, c.2.1, es), (d.1, d.2.1, fs)])
  | _, _ => none
def ioX (Φ : FunIO) (ob : Objs) (nx : Nat) (ps : List PV) : List Nat → Option (PV × Objs × Nat)
  | [] => (ps.mapM (renF (inn []) fuel)).bind fun qs => ioR [] ob nx (Φ qs [])
  | [o] => (ps.mapM (renF (inn [o]) fuel)).bind fun qs => ioOne Φ ob nx o qs (ob o)
  | [a, b] => (ps.mapM (renF (inn [a, b]) fuel)).bind fun qs => ioTwo Φ ob nx a b qs (ob a) (ob b)
  | _ => ioEv Φ ob nx ps
theorem io_any (ps : List PV) : ioEv Φ ob nx ps = ioX Φ ob nx ps (dedup (refsL ps)) := by
  generalize hos : dedup (refsL ps) = os
  rw [← refsL_eq] at hos
  match os with
  | [] =>
    show _ = (ps.mapM (renF (inn []) fuel)).bind _
    cases h2 : ps.mapM (renF (inn []) fuel) with
    | some qs => rw [ioEv_eq ps [] hos, h2, mapM_nil']; rfl
    | none => rw [ioEv_eq ps [] hos, h2, mapM_nil']; rfl
  | [o] =>
    show _ = (ps.mapM (renF (inn [o]) fuel)).bind _
    cases h2 : ps.mapM (renF (inn [o]) fuel) with
    | some qs => rw [ioOne_of hos h2]; rfl
    | none =>
      rw [ioEv_eq ps [o] hos, h2]
      cases [o].mapM ob <;> rfl
  | [a, b] =>
    show _ = (ps.mapM (renF (inn [a, b]) fuel)).bind _
    rw [ioEv_eq ps [a, b] hos]
    simp only [mapM_cons', mapM_nil', renC]
    cases ps.mapM (renF (inn [a, b]) fuel) with
    | none => cases ob a <;> cases ob b <;> rfl
    | some qs =>
      simp only [Option.bind_some]
      cases ob a with
      | none => rfl
      | some c =>
        cases ob b with
        | none => rfl
        | some d =>
          obtain ⟨T, sz, es0⟩ := c
          obtain ⟨T2, sz2, fs0⟩ := d
          simp only [Option.bind_some, Option.map_some, ioTwo, mapM_cons', mapM_nil', renC]
          cases es0.mapM (renF (inn [a, b]) fuel) with
          | none => rfl
          | some es =>
            simp only [Option.bind_some, Option.map_some]
            cases fs0.mapM (renF (inn [a, b]) fuel) <;> rfl
  | _ :: _ :: _ :: _ => rfl
theorem ioX_nil {ps : List PV} : ioX Φ ob nx ps [] = (ps.mapM (renF (inn []) fuel)).bind fun qs => ioR [] ob nx (Φ qs []) := rfl
theorem ioX_one {ps : List PV} {o : Nat} : ioX Φ ob nx ps [o] = (ps.mapM (renF (inn [o]) fuel)).bind fun qs => ioOne Φ ob nx o qs (ob o) := rfl
theorem ioX_two {ps : List PV} {a b : Nat} : ioX Φ ob nx ps [a, b] = (ps.mapM (renF (inn [a, b]) fuel)).bind fun qs => ioTwo Φ ob nx a b qs (ob a) (ob b) := rfl
theorem ioTwo_some {a b T T2 sz sz2 : Nat} {es es2 qs : List PV} : ioTwo Φ ob nx a b qs (some (T, sz, es)) (some (T2, sz2, es2)) = (es.mapM (renF (inn [a, b]) fuel)).bind fun es => (es2.mapM (renF (inn [a, b]) fuel)).bind fun fs => ioR [a, b] ob nx (Φ qs [(T, sz, es), (T2, sz2, fs)]) := rfl
theorem dd_ab {a b : Nat} (h : ¬ a = b) : dedup [a, b] = [a, b] := by
  have h' : ¬ b = a := fun e => h e.symm
  simp [dedup, h']
theorem inn_a {a b : Nat} : inn [a, b] a = some 0 := by simp [inn]
theorem inn_b {a b : Nat} (h : ¬ a = b) : inn [a, b] b = some 1 := by
  have h2 : (a == b) = false := by simpa using h
  simp [inn, List.idxOf_cons, h2]
theorem outF_ab0 {a b nx : Nat} : outF [a, b] nx 0 = some a := rfl
theorem outF_ab1 {a b nx : Nat} : outF [a, b] nx 1 = some b := rfl
theorem outF_ab2 {a b nx : Nat} : outF [a, b] nx 2 = some nx := by simp [outF, outn]
theorem outF_a1 {a nx : Nat} : outF [a] nx 1 = some nx := by simp [outF, outn]
theorem ioR_ab2 {a b T T2 sz sz2 : Nat} {es es2 : List PV} {r : PV} : ioR [a, b] ob nx (some (r, [(T, sz, es), (T2, sz2, es2)])) = (renF (outF [a, b] nx) fuel r).bind fun r' => (es.mapM (renF (outF [a, b] nx) fuel)).bind fun es' => (es2.mapM (renF (outF [a, b] nx) fuel)).map fun es2' => (r', upd (upd ob a (some (T, sz, es'))) b (some (T2, sz2, es2')), nx) := by
  unfold ioR
  simp only [mapM_cons', mapM_nil', renC]
  cases renF (outF [a, b] nx) fuel r with
  | none => rfl
  | some r' =>
    cases es.mapM (renF (outF [a, b] nx) fuel) with
    | none => rfl
    | some es' =>
      cases es2.mapM (renF (outF [a, b] nx) fuel) <;> rfl
theorem ioR_ab3 {a b T T2 T3 sz sz2 sz3 : Nat} {es es2 es3 : List PV} {r : PV} : ioR [a, b] ob nx (some (r, [(T, sz, es), (T2, sz2, es2), (T3, sz3, es3)])) = (renF (outF [a, b] nx) fuel r).bind fun r' => (es.mapM (renF (outF [a, b] nx) fuel)).bind fun es' => (es2.mapM (renF (outF [a, b] nx) fuel)).bind fun es2' => (es3.mapM (renF (outF [a, b] nx) fuel)).map fun es3' => (r', upd (upd (upd ob a (some (T, sz, es'))) b (some (T2, sz2, es2'))) nx (some (T3, sz3, es3')), nx + 1) := by
  unfold ioR
  simp only [mapM_cons', mapM_nil', renC]
  cases renF (outF [a, b] nx) fuel r with
  | none => rfl
  | some r' =>
    cases es.mapM (renF (outF [a, b] nx) fuel) with
    | none => rfl
    | some es' =>
      cases es2.mapM (renF (outF [a, b] nx) fuel) with
      | none => rfl
      | some es2' =>
        cases es3.mapM (renF (outF [a, b] nx) fuel) with
        | none => rfl
        | some es3' =>
          simp only [Option.map_some, Option.bind_some, List.length_cons, List.length_nil, Nat.zero_add, Nat.reduceAdd, Nat.reduceSub, Option.some.injEq, Prod.mk.injEq, true_and, and_true]
          show putObs ob [(outn [a, b] nx 0, _), (outn [a, b] nx 1, _), (outn [a, b] nx 2, _)] = _
          simp [putObs, outn]
theorem dd_nil : dedup [] = [] := rfl
theorem dd_one {o : Nat} : dedup [o] = [o] := rfl
theorem dd_two {o : Nat} : dedup [o, o] = [o] := by simp [dedup]
theorem rl_nil : refsL [] = [] := rfl
theorem rl_cons {p : PV} {ps : List PV} : refsL (p :: ps) = refsX p ++ refsL ps := rfl
theorem rx_val {v : Value} : refsX (.val v) = [] := rfl
theorem rx_lst {k : Bool} {sz : Nat} {es : List PV} : refsX (.lst k sz es) = [] := rfl
theorem rx_ptr {k : Bool} {e : PV} {o : Nat} : refsX (.ptr k e o) = [] := rfl
theorem rx_own {o a b c : Nat} : refsX (.own o a b c) = [o] := rfl
theorem rx_row {o a b c : Nat} : refsX (.row o a b c) = [o] := rfl
theorem rx_agg {cs : List PV} : refsX (.agg cs) = refsA cs := rfl
theorem ra_nil : refsA [] = [] := rfl
theorem ra_val {v : Value} {l : List PV} : refsA (.val v :: l) = refsA l := rfl
theorem ra_lst {k : Bool} {sz : Nat} {es l : List PV} : refsA (.lst k sz es :: l) = refsA l := rfl
theorem ra_own {o a b c : Nat} {l : List PV} : refsA (.own o a b c :: l) = o :: refsA l := rfl
theorem ra_row {o a b c : Nat} {l : List PV} : refsA (.row o a b c :: l) = o :: refsA l := rfl
end
attribute [push_cast low]
  io_any
attribute [push_cast]
  ioX_nil ioX_one ioX_two ioTwo_some dd_ab inn_a inn_b outF_ab0 outF_ab1 outF_ab2 outF_a1 ioR_ab2 ioR_ab3 dd_nil dd_one dd_two rl_nil rl_cons rx_val rx_lst rx_ptr rx_own rx_row rx_agg ra_nil ra_val ra_lst ra_own ra_row
end Go.Proofs.YtenldjifipnjpaaDoor
namespace Go.Proofs.YtenldjifipnjpaaDoor
open Go.RowKit
set_option linter.all false
theorem byteNs_gl {l : List Int} : byteNs (l.map fun n => .val (.int .u8 n)) = some l := by
  induction l with
  | nil => rfl
  | cons x l ih => simp_all [byteNs]
attribute [push_cast]
  byteNs_gl
theorem gl_ext {a b : ByteArray} (h : a.data.toList = b.data.toList) : a = b := by
  obtain ⟨⟨a⟩⟩ := a
  obtain ⟨⟨b⟩⟩ := b
  simp only at h
  rw [h]
end Go.Proofs.YtenldjifipnjpaaDoor
namespace Go.Proofs.YtenldjifipnjpaaDoor
open Go.RowKit
set_option linter.all false
def splitC (c : UInt8) : List UInt8 → List (List UInt8)
  | [] => [[]]
  | b :: l => if b = c then [] :: splitC c l else match splitC c l with
    | h :: t => (b :: h) :: t
    | [] => [[b]]
theorem splitC_ne (c : UInt8) : ∀ s, splitC c s ≠ []
  | [] => by simp [splitC]
  | b :: l => by
    unfold splitC
    split
    · simp
    · split <;> simp
theorem index_eq (c : UInt8) (l : List UInt8) : Lib.index (c :: l) [c] = 0 := by simp [Lib.index, List.isPrefixOf]
theorem index_ne {b c : UInt8} (l : List UInt8) (h : ¬ b = c) : Lib.index (b :: l) [c] = if Lib.index l [c] == -1 then -1 else Lib.index l [c] + 1 := by
  have hp : ([c] : List UInt8).isPrefixOf (b :: l) = false := by
    have : ¬ c = b := fun e => h e.symm
    simp [List.isPrefixOf, this]
  rw [Lib.index, hp]
  simp
theorem splitK_ne {b c : UInt8} (l : List UInt8) (h : ¬ b = c) : ∀ k, ∃ h0 t, Lib.splitK [c] 0 k l = h0 :: t ∧ Lib.splitK [c] 0 k (b :: l) = (b :: h0) :: t
  | 0 => ⟨l, [], rfl, rfl⟩
  | k + 1 => by
    by_cases hi : Lib.index l [c] = -1
    · refine ⟨l, [], ?_, ?_⟩
      · unfold Lib.splitK
        rw [if_pos (beq_iff_eq.2 hi)]
      · unfold Lib.splitK
        rw [index_ne l h, if_pos (beq_iff_eq.2 hi)]
        rfl
    · have hge := Lib.index_ge l [c]
      have h1 : ¬ (Lib.index l [c] == -1) = true := fun e => hi (beq_iff_eq.1 e)
      have h2 : ¬ (Lib.index l [c] + 1 == -1) = true := fun e => by have := beq_iff_eq.1 e; omega
      refine ⟨l.take ((Lib.index l [c]).toNat + 0), Lib.splitK [c] 0 k (l.drop ((Lib.index l [c]).toNat + 1)), ?_, ?_⟩
      · conv => lhs; unfold Lib.splitK
        rw [if_neg h1]
        rfl
      · conv => lhs; unfold Lib.splitK
        rw [index_ne l h, if_neg h1, if_neg h2, show (Lib.index l [c] + 1).toNat = (Lib.index l [c]).toNat + 1 by omega]
        rfl
theorem splitK_C (c : UInt8) : ∀ s : List UInt8, Lib.splitK [c] 0 (Lib.count s [c]) s = splitC c s
  | [] => by
    rw [Lib.count_one]
    rfl
  | b :: l => by
    have ih := splitK_C c l
    by_cases h : b = c
    · subst h
      rw [Lib.count_cons_eq, Nat.add_comm]
      unfold splitC
      conv => lhs; unfold Lib.splitK
      rw [index_eq, if_neg (by decide), if_pos rfl, ← ih]
      rfl
    · rw [Lib.count_cons_ne b c l h]
      obtain ⟨h0, t, e1, e2⟩ := splitK_ne l h (Lib.count l [c])
      rw [e2]
      unfold splitC
      rw [if_neg h, ← ih, e1]
def wordsM : List UInt8 → List UInt8 → List (List UInt8)
  | [], w => if w = [] then [] else [w]
  | b :: l, w => if b = 32 then (if w = [] then [] else [w]) ++ wordsM l [] else wordsM l (w ++ [b])
def hcat (w : List UInt8) : List (List UInt8) → List (List UInt8)
  | h :: t => (w ++ h) :: t
  | [] => []
theorem hcat_nil (l : List (List UInt8)) : hcat [] l = l := by cases l <;> rfl
theorem wordsM_split : ∀ (s w : List UInt8), (hcat w (splitC 32 s)).filter (fun x => decide (x ≠ [])) = wordsM s w
  | [], w => by
    by_cases h : w = [] <;> simp [splitC, hcat, wordsM, h]
  | b :: l, w => by
    by_cases h : b = 32
    · subst h
      have ih := wordsM_split l []
      rw [hcat_nil] at ih
      unfold splitC wordsM
      rw [if_pos rfl, if_pos rfl, ← ih]
      by_cases hw : w = [] <;> simp [hcat, hw]
    · have ih := wordsM_split l (w ++ [b])
      unfold splitC wordsM
      rw [if_neg h, if_neg h, ← ih]
      have hne := splitC_ne 32 l
      generalize splitC 32 l = L at *
      cases L with
      | nil => exact absurd rfl hne
      | cons x t => simp [hcat]
def lineB (s : List UInt8) : List UInt8 := if Lib.hasSuffix s [45] then s.take (s.length - 1) else s ++ [32]
def linesB : List (List UInt8) → List UInt8
  | [] => []
  | s :: l => lineB s ++ linesB l
theorem words_split (s : ByteArray) : ((Lib.splitB ⟨#[32]⟩ 0 (Lib.countB s ⟨#[32]⟩) s).filter fun x => decide (x.data.toList ≠ [])).map (·.data.toList) = wordsM s.data.toList [] := by
  have h := wordsM_split s.data.toList []
  rw [hcat_nil, ← splitK_C] at h
  rw [← h]
  have e := Lib.splitB_data ⟨#[32]⟩ 0 (Lib.countB s ⟨#[32]⟩) s
  have e2 : Lib.splitK [32] 0 (Lib.count s.data.toList [32]) s.data.toList = (Lib.splitB ⟨#[32]⟩ 0 (Lib.countB s ⟨#[32]⟩) s).map (·.data.toList) := e.symm
  rw [e2, List.filter_map]
  rfl
theorem suf_last (l : List UInt8) (z : UInt8) : Lib.hasSuffix (l ++ [z]) [45] = decide (z = 45) := by
  unfold Lib.hasSuffix List.isSuffixOf
  rw [List.reverse_append]
  by_cases h : z = 45
  · subst h; simp [List.isPrefixOf]
  · have h2 : ¬ (45 : UInt8) = z := fun e => h e.symm
    simp [List.isPrefixOf, h, h2]
theorem at8_u {s : ByteArray} {j : Nat} (h : j < s.data.toList.length) : at8 s j = (s.data.toList[j].toNat : Int) := by
  have hl : s.data.toList.length = s.size := Array.length_toList
  have e : s[j]? = some s.data.toList[j] := by
    rw [getElem?_pos s j (by omega)]
    congr 1
  unfold at8
  rw [e]
  rfl
end Go.Proofs.YtenldjifipnjpaaDoor
namespace Go.Proofs.YtenldjifipnjpaaDoor
open Go.RowKit
set_option linter.all false
def natN (l : LS) : Nat := sumS l + (l.length - 1)
theorem natN_le {l : LS} (h : okSs l) : natN l ≤ 1099512676352 := by
  have h1 := sumS_le h.2
  have h2 : l.length * 1048576 ≤ 1048576 * 1048576 := Nat.mul_le_mul_right _ h.1
  unfold natN
  have := h.1
  omega
noncomputable def φNat : Fun := F1 dSs fun l => if okSs l then some (iv (natN l)) else none
theorem φNat_ap {l : LS} (h : okSs l) : φNat [.lst false 1 (l.map fun s => .val (.string s))] = some (.val (.int .i64 (natN l))) :=
  (F1_ap (A := dSs) l).trans (if_pos h)
noncomputable def GNat : Ctx := ⟨fun f => if f = 79 then some φJoin else none, fun f => none⟩
theorem GNat_ok : SoundΓ Tryd.prog GNat := ⟨(fun f φ h => by
  unfold GNat at h
  dsimp only at h
  split at h
  · rename_i hf; cases h; subst hf; exact ⟨⟨_, Tryd.func79, rfl, rfl⟩, join_ok⟩
  cases h), (fun f φ h => by
  unfold GNat at h
  dsimp only at h
  cases h)⟩
theorem GNat_79 (ob : Objs) (ps : List PV) : evCall GNat ob 79 ps = (ps.mapM (reify false 0 ob fuel)).bind φJoin := by
  have h : GNat.fn 79 = some φJoin := by simp [GNat]
  unfold evCall
  rw [h]
  cases ps.mapM (reify false 0 ob fuel) <;> rfl
theorem natural_ok : Sound Tryd.prog 78 φNat := by
  refine sound_pq mixed GNat_ok Tryd.func78 rfl 6 rfl [.tmp 2] rfl (by kernel_rfl) fun ps r hr => ?_
  obtain ⟨l, rfl, hq⟩ := F1_some hr
  clear hr
  split at hq
  case isFalse => cases hq
  case isTrue hpre =>
  cases hq
  refine ⟨by simp, ?_⟩
  simp only [dIs, dUs, dSs, dI_e, dU_e, dB_e, dS_e, dFn_e, dL_e, dA2_e, dA3_e, dA4_e, dA5_e]
  have hn := natN_le hpre
  have e : (joinB l ⟨#[32]⟩).size = natN l := by
    rw [joinB_size]
    show sumS l + (l.length - 1) * 1 = _
    rw [Nat.mul_one]
    rfl
  have ap := φJoin_ap (l := l) (sep := ⟨#[32]⟩) hpre.1 (by omega)
  clear hpre
  have gnat_c79 := GNat_79
  repeat' (first | (with_reducible first | apply i_seq | apply i_block | apply i_skip | apply i_exit | apply i_ret | apply i_kS | apply i_kSx | apply i_kSr | apply i_kL | apply i_kLx | apply i_kLr | apply i_kB | apply i_kBr | apply i_kBs | apply i_nil) | ((with_reducible apply i_region); (focus (simp only [List.map_cons, List.map_nil] <;> exact rfl))) | ((with_reducible apply i_draw); (focus (simp only [List.map_cons, List.map_nil] <;> exact rfl)); (focus (decide +kernel))) | ((with_reducible apply i_kBo); (focus rfl)) | ((first | ((with_reducible apply i_V); (focus rfl); (focus rfl); (focus rfl)) | ((with_reducible first | apply i_E | apply i_S); (focus rfl); (focus (first | rfl | (simp only [push_cast, ↓reduceIte, effOk, touch, refsOf, List.flatMap_cons, List.flatMap_nil])))) | ((with_reducible apply i_Vq); (focus rfl); (focus rfl)) | ((with_reducible apply i_Vp); (focus rfl); (focus rfl); (focus rfl)) | (with_reducible first | apply i_Gb | apply i_cond)); (focus (simp (disch := (first | omega | (simp only [push_cast]; done) | (simp only [push_cast]; omega) | ((try simp only [push_cast]); (with_reducible first | apply sel_lt | apply sel_ge); (focus decide); (focus (simp only [push_cast]; omega))))) only [push_cast, ↓reduceIte, Nat.reduceEqDiff, Nat.reduceBEq, Nat.reduceAdd, Nat.reduceSub, Int.reduceToNat, *] <;> with_reducible exact rfl)); all_goals try (intro hX; first | (cases hX; done) | ((with_reducible first | have hX0 : true = true := hX | have hX0 : false = false := hX); clear hX0 hX) | ((try simp only [decide_eq_true_eq, decide_eq_false_iff_not, Bool.not_eq_true', Bool.not_eq_false'] at hX); (try have hXb := inB_iff.1 hX)))))
  all_goals ((first | apply i_end | apply i_endN); simp (disch := (first | omega | (simp only [push_cast]; done) | (simp only [push_cast]; omega) | ((try simp only [push_cast]); (with_reducible first | apply sel_lt | apply sel_ge); (focus decide); (focus (simp only [push_cast]; omega))))) only [push_cast, ↓reduceIte, Nat.reduceEqDiff, Nat.reduceBEq, Nat.reduceAdd, Nat.reduceSub, Int.reduceToNat, *])
def φBroad : Fun := F1 dI fun n => some (bv (inB n 1 60))
theorem φBroad_ap (n : Int) : φBroad [.val (.int .i64 n)] = some (.val (.bool (inB n 1 60))) := rfl
noncomputable def GBr : Ctx := ⟨fun f => if f = 65 then some φIn else none, fun f => none⟩
theorem GBr_ok : SoundΓ Tryd.prog GBr := ⟨(fun f φ h => by
  unfold GBr at h
  dsimp only at h
  split at h
  · rename_i hf; cases h; subst hf; exact ⟨⟨_, Tryd.func65, rfl, rfl⟩, in_ok⟩
  cases h), (fun f φ h => by
  unfold GBr at h
  dsimp only at h
  cases h)⟩
theorem GBr_65 (ob : Objs) (ps : List PV) : evCall GBr ob 65 ps = (ps.mapM (reify false 0 ob fuel)).bind φIn := by
  have h : GBr.fn 65 = some φIn := by simp [GBr]
  unfold evCall
  rw [h]
  cases ps.mapM (reify false 0 ob fuel) <;> rfl
theorem isBroad_ok : Sound Tryd.prog 77 φBroad := by
  refine sound_pq mixed GBr_ok Tryd.func77 rfl 5 rfl [.tmp 2] rfl (by kernel_rfl) fun ps r hr => ?_
  obtain ⟨n, rfl, hr⟩ := F1_some hr
  cases hr
  refine ⟨by simp, ?_⟩
  simp only [dIs, dUs, dSs, dI_e, dU_e, dB_e, dS_e, dFn_e, dL_e, dA2_e, dA3_e, dA4_e, dA5_e]
  have gbr_c65 := GBr_65; have ap := φIn_ap
  repeat' (first | (with_reducible first | apply i_seq | apply i_block | apply i_skip | apply i_exit | apply i_ret | apply i_kS | apply i_kSx | apply i_kSr | apply i_kL | apply i_kLx | apply i_kLr | apply i_kB | apply i_kBr | apply i_kBs | apply i_nil) | ((with_reducible apply i_region); (focus (simp only [List.map_cons, List.map_nil] <;> exact rfl))) | ((with_reducible apply i_draw); (focus (simp only [List.map_cons, List.map_nil] <;> exact rfl)); (focus (decide +kernel))) | ((with_reducible apply i_kBo); (focus rfl)) | ((first | ((with_reducible apply i_V); (focus rfl); (focus rfl); (focus rfl)) | ((with_reducible first | apply i_E | apply i_S); (focus rfl); (focus (first | rfl | (simp only [push_cast, ↓reduceIte, effOk, touch, refsOf, List.flatMap_cons, List.flatMap_nil])))) | ((with_reducible apply i_Vq); (focus rfl); (focus rfl)) | ((with_reducible apply i_Vp); (focus rfl); (focus rfl); (focus rfl)) | (with_reducible first | apply i_Gb | apply i_cond)); (focus (simp (disch := (first | omega | (simp only [push_cast]; done) | (simp only [push_cast]; omega) | ((try simp only [push_cast]); (with_reducible first | apply sel_lt | apply sel_ge); (focus decide); (focus (simp only [push_cast]; omega))))) only [push_cast, ↓reduceIte, Nat.reduceEqDiff, Nat.reduceBEq, Nat.reduceAdd, Nat.reduceSub, Int.reduceToNat, *] <;> with_reducible exact rfl)); all_goals try (intro hX; first | (cases hX; done) | ((with_reducible first | have hX0 : true = true := hX | have hX0 : false = false := hX); clear hX0 hX) | ((try simp only [decide_eq_true_eq, decide_eq_false_iff_not, Bool.not_eq_true', Bool.not_eq_false'] at hX); (try have hXb := inB_iff.1 hX)))))
  all_goals ((first | apply i_end | apply i_endN); simp (disch := (first | omega | (simp only [push_cast]; done) | (simp only [push_cast]; omega) | ((try simp only [push_cast]); (with_reducible first | apply sel_lt | apply sel_ge); (focus decide); (focus (simp only [push_cast]; omega))))) only [push_cast, ↓reduceIte, Nat.reduceEqDiff, Nat.reduceBEq, Nat.reduceAdd, Nat.reduceSub, Int.reduceToNat, *])
def gapF (m n : Int) (k : Nat) : Int := 1 + m * (k + 1) / n - m * k / n
def gapsL (l : LS) (wd : Int) : List Int := (List.range (l.length - 1)).map (gapF (wd - natN l) ((l.length : Int) - 1))
def gapsK (l : LS) (wd : Int) (k : Nat) : List Int := (List.range k).map (gapF (wd - natN l) ((l.length : Int) - 1))
theorem gapsL_K {l : LS} {wd : Int} : gapsL l wd = gapsK l wd (l.length - 1) := rfl
theorem gapsK_step {l : LS} {wd : Int} {L : List Int} (h : L = gapsK l wd L.length) : L ++ [gapF (wd - natN l) ((l.length : Int) - 1) L.length] = gapsK l wd (L ++ [gapF (wd - natN l) ((l.length : Int) - 1) L.length]).length := by
  have e : gapsK l wd (L.length + 1) = gapsK l wd L.length ++ [gapF (wd - natN l) ((l.length : Int) - 1) L.length] := by
    simp [gapsK, List.range_succ]
  rw [List.length_append, List.length_cons, List.length_nil, Nat.zero_add, e, ← h]
def gapsB (l : LS) (wd : Int) : Bool := allWords l && (!decide (l.length = 0) && (inB wd 1 60 && decide ((natN l : Int) ≤ wd)))
def gapsR (l : LS) (wd : Int) : List Int := if gapsB l wd = true then gapsL l wd else []
noncomputable def φGaps : Fun := F2 dSs dI fun l wd => if okSs l then some (.tup [.lst true 1 ((gapsR l wd).map fun n => .val (.int .i64 n)), .val (.bool (gapsB l wd))]) else none
theorem φGaps_ap {l : LS} {wd : Int} (h : okSs l) : φGaps [.lst false 1 (l.map fun s => .val (.string s)), .val (.int .i64 wd)] = some (.tup [.lst true 1 ((gapsR l wd).map fun n => .val (.int .i64 n)), .val (.bool (gapsB l wd))]) :=
  (F2_ap (A := dSs) (B := dI) l wd).trans (if_pos h)
theorem gapsR_no {l : LS} {wd : Int} (h : gapsB l wd = false) : gapsR l wd = [] := by simp [gapsR, h]
theorem gapsR_yes {l : LS} {wd : Int} (h : gapsB l wd = true) : gapsR l wd = gapsL l wd := by simp [gapsR, h]
theorem gapsB_iff {l : LS} {wd : Int} : gapsB l wd = true ↔ allWords l = true ∧ l.length ≠ 0 ∧ inB wd 1 60 = true ∧ (natN l : Int) ≤ wd := by
  simp [gapsB]
theorem allWords_len {l : LS} (h : allWords l = true) : l.length ≤ 12 := by
  unfold allWords at h
  simp only [Bool.and_eq_true, decide_eq_true_eq] at h
  exact h.1
theorem gap_rng {m n : Int} {k : Nat} (hm : 0 ≤ m) (hm2 : m ≤ 60) (hk : (k : Int) ≤ 12) (hn : 0 ≤ n) :
    (0 ≤ m * (k + 1) ∧ m * (k + 1) ≤ 780) ∧ (0 ≤ m * k ∧ m * k ≤ 780) ∧ (0 ≤ m * (k + 1) / n ∧ m * (k + 1) / n ≤ 780) ∧ (0 ≤ m * k / n ∧ m * k / n ≤ 780) := by
  have h1 : 0 ≤ m * (k + 1) := Int.mul_nonneg hm (by omega)
  have h2 : 0 ≤ m * k := Int.mul_nonneg hm (by omega)
  have h3 : m * (k + 1) ≤ 60 * 13 := Int.mul_le_mul hm2 (by omega) (by omega) (by omega)
  have h4 : m * k ≤ 60 * 13 := Int.mul_le_mul hm2 (by omega) (by omega) (by omega)
  refine ⟨⟨h1, by omega⟩, ⟨h2, by omega⟩, ⟨Int.ediv_nonneg h1 hn, ?_⟩, ⟨Int.ediv_nonneg h2 hn, ?_⟩⟩
  · have := Int.ediv_le_self n h1; omega
  · have := Int.ediv_le_self n h2; omega
noncomputable def GGap : Ctx := ⟨fun f => if f = 76 then some φWords else if f = 77 then some φBroad else if f = 78 then some φNat else none, fun f => none⟩
theorem GGap_ok : SoundΓ Tryd.prog GGap := ⟨(fun f φ h => by
  unfold GGap at h
  dsimp only at h
  split at h
  · rename_i hf; cases h; subst hf; exact ⟨⟨_, Tryd.func76, rfl, rfl⟩, implWordsValid_ok⟩
  split at h
  · rename_i hf; cases h; subst hf; exact ⟨⟨_, Tryd.func77, rfl, rfl⟩, isBroad_ok⟩
  split at h
  · rename_i hf; cases h; subst hf; exact ⟨⟨_, Tryd.func78, rfl, rfl⟩, natural_ok⟩
  cases h), (fun f φ h => by
  unfold GGap at h
  dsimp only at h
  cases h)⟩
theorem GGap_76 (ob : Objs) (ps : List PV) : evCall GGap ob 76 ps = (ps.mapM (reify false 0 ob fuel)).bind φWords := by
  have h : GGap.fn 76 = some φWords := by simp [GGap]
  unfold evCall
  rw [h]
  cases ps.mapM (reify false 0 ob fuel) <;> rfl
theorem GGap_77 (ob : Objs) (ps : List PV) : evCall GGap ob 77 ps = (ps.mapM (reify false 0 ob fuel)).bind φBroad := by
  have h : GGap.fn 77 = some φBroad := by simp [GGap]
  unfold evCall
  rw [h]
  cases ps.mapM (reify false 0 ob fuel) <;> rfl
theorem GGap_78 (ob : Objs) (ps : List PV) : evCall GGap ob 78 ps = (ps.mapM (reify false 0 ob fuel)).bind φNat := by
  have h : GGap.fn 78 = some φNat := by simp [GGap]
  unfold evCall
  rw [h]
  cases ps.mapM (reify false 0 ob fuel) <;> rfl
abbrev gapsI (l : LS) (wd : Int) : List PV := (gapsR l wd).map fun n => .val (.int .i64 n)
noncomputable def ΨGaps : FunN := G2 dSs dI fun l wd => if okSs l then some (.tup [nP 1 (gapsI l wd) 0, .val (.bool (gapsB l wd))], nC 3 1 (gapsI l wd)) else none
theorem ΨGaps_ap {l : LS} {wd : Int} (h : okSs l) : ΨGaps [.lst false 1 (l.map fun s => .val (.string s)), .val (.int .i64 wd)] = some (.tup [nP 1 (gapsI l wd) 0, .val (.bool (gapsB l wd))], nC 3 1 (gapsI l wd)) :=
  (G2_ap (A := dSs) (B := dI) l wd).trans (if_pos h)
set_option maxHeartbeats 8000000 in
theorem implTextGapsN : SoundN Tryd.prog 72 ΨGaps := by
  refine sound_pqN mixed GGap_ok Tryd.func72 rfl 58 rfl [.tmp 4, .tmp 5] rfl (by kernel_rfl) fun ps r cs' hr => ?_
  obtain ⟨l, wd, rfl, hq⟩ := G2_some hr
  clear hr
  split at hq
  case isFalse => cases hq
  case isTrue hpre =>
  cases hq
  refine ⟨by simp, ?_⟩
  simp only [dIs, dUs, dSs, dI_e, dU_e, dB_e, dS_e, dFn_e, dL_e, dA2_e, dA3_e, dA4_e, dA5_e]
  have hl := hpre.1
  have hn := natN_le hpre
  have ap1 := φWords_ap hpre
  have ap2 := φNat_ap hpre
  have ap3 := φBroad_ap
  clear hpre
  unfold gapsI
  cases hG : gapsB l wd with
  | false =>
    rw [gapsR_no hG]
    unfold gapsB at hG
    show pq _ _ _ _ (PostIO _ _ 0 (.tup [.val (.slice none 0 0), .val (.bool false)]) []) _ _ _
    have ggap_c76 := GGap_76; have ggap_c77 := GGap_77; have ggap_c78 := GGap_78
    repeat' (first | (with_reducible first | apply i_seq | apply i_block | apply i_skip | apply i_exit | apply i_ret | apply i_kS | apply i_kSx | apply i_kSr | apply i_kL | apply i_kLx | apply i_kLr | apply i_kB | apply i_kBr | apply i_kBs | apply i_nil) | ((with_reducible apply i_region); (focus (simp only [List.map_cons, List.map_nil] <;> exact rfl))) | ((with_reducible apply i_draw); (focus (simp only [List.map_cons, List.map_nil] <;> exact rfl)); (focus (decide +kernel))) | ((with_reducible apply i_kBo); (focus rfl)) | ((first | ((with_reducible apply i_V); (focus rfl); (focus rfl); (focus rfl)) | ((with_reducible first | apply i_E | apply i_S); (focus rfl); (focus (first | rfl | (simp only [push_cast, ↓reduceIte, effOk, touch, refsOf, List.flatMap_cons, List.flatMap_nil])))) | ((with_reducible apply i_Vq); (focus rfl); (focus rfl)) | ((with_reducible apply i_Vp); (focus rfl); (focus rfl); (focus rfl)) | (with_reducible first | apply i_Gb | apply i_cond)); (focus (simp (disch := (first | omega | (simp only [push_cast]; done) | (simp only [push_cast]; omega) | ((try simp only [push_cast]); (with_reducible first | apply sel_lt | apply sel_ge); (focus decide); (focus (simp only [push_cast]; omega))))) only [push_cast, ↓reduceIte, Nat.reduceEqDiff, Nat.reduceBEq, Nat.reduceAdd, Nat.reduceSub, Int.reduceToNat, *] <;> with_reducible exact rfl)); all_goals try (intro hX; first | (cases hX; done) | ((with_reducible first | have hX0 : true = true := hX | have hX0 : false = false := hX); clear hX0 hX) | ((try simp only [decide_eq_true_eq, decide_eq_false_iff_not, Bool.not_eq_true', Bool.not_eq_false'] at hX); (try have hXb := inB_iff.1 hX)))))
    all_goals (first | (exfalso; simp_all; done) | (((with_reducible apply i_endN0 (by first | exact .inl rfl | exact .inr rfl)); (focus (simp (disch := (first | omega | (simp only [push_cast]; done) | (simp only [push_cast]; omega) | ((try simp only [push_cast]); (with_reducible first | apply sel_lt | apply sel_ge); (focus decide); (focus (simp only [push_cast]; omega))))) only [push_cast, ↓reduceIte, Nat.reduceEqDiff, Nat.reduceBEq, Nat.reduceAdd, Nat.reduceSub, Int.reduceToNat, *] <;> with_reducible exact rfl))); done) | skip)
  | true =>
    obtain ⟨hw, h0, hwd, hle⟩ := gapsB_iff.1 hG
    have hwb := inB_iff.1 hwd
    have h12 := allWords_len hw
    have hR := gapsR_yes hG
    rw [hR]
    clear hG hR
    have ggap_c76 := GGap_76; have ggap_c77 := GGap_77; have ggap_c78 := GGap_78
    repeat' (first | (with_reducible first | apply i_seq | apply i_block | apply i_skip | apply i_exit | apply i_ret | apply i_kS | apply i_kSx | apply i_kSr | apply i_kL | apply i_kLx | apply i_kLr | apply i_kB | apply i_kBr | apply i_kBs | apply i_nil) | ((with_reducible apply i_region); (focus (simp only [List.map_cons, List.map_nil] <;> exact rfl))) | ((with_reducible apply i_draw); (focus (simp only [List.map_cons, List.map_nil] <;> exact rfl)); (focus (decide +kernel))) | ((with_reducible apply i_kBo); (focus rfl)) | ((first | ((with_reducible apply i_V); (focus rfl); (focus rfl); (focus rfl)) | ((with_reducible first | apply i_E | apply i_S); (focus rfl); (focus (first | rfl | (simp only [push_cast, ↓reduceIte, effOk, touch, refsOf, List.flatMap_cons, List.flatMap_nil])))) | ((with_reducible apply i_Vq); (focus rfl); (focus rfl)) | ((with_reducible apply i_Vp); (focus rfl); (focus rfl); (focus rfl)) | (with_reducible first | apply i_Gb | apply i_cond)); (focus (simp (disch := (first | omega | (simp only [push_cast]; done) | (simp only [push_cast]; omega) | ((try simp only [push_cast]); (with_reducible first | apply sel_lt | apply sel_ge); (focus decide); (focus (simp only [push_cast]; omega))))) only [push_cast, ↓reduceIte, Nat.reduceEqDiff, Nat.reduceBEq, Nat.reduceAdd, Nat.reduceSub, Int.reduceToNat, *] <;> with_reducible exact rfl)); all_goals try (intro hX; first | (cases hX; done) | ((with_reducible first | have hX0 : true = true := hX | have hX0 : false = false := hX); clear hX0 hX) | ((try simp only [decide_eq_true_eq, decide_eq_false_iff_not, Bool.not_eq_true', Bool.not_eq_false'] at hX); (try have hXb := inB_iff.1 hX)))))
    all_goals try (exfalso; omega)
    refine i_loop (α := List Int × Nat × Nat) mixed (fun s => [(6, iv (wd - natN l)), (7, iv ((l.length : Int) - 1)), (8, nP 1 (s.1.map fun n => .val (.int .i64 n)) s.2.1), (36, iv ((l.length : Int) - 1)), (37, iv s.1.length)])
      (fun s => nO 3 1 (s.1.map fun n => .val (.int .i64 n)) s.2.1) (fun s => s.2.2)
      (fun s => s.1 = gapsK l wd s.1.length ∧ s.1.length < l.length ∧ s.2.1 ≤ s.2.2) (fun s => l.length - s.1.length) (by kernel_rfl) ([], 0, 0) ⟨rfl, by simp; omega, by simp⟩ ?_ ?_ rfl ?_
    · simp (disch := (first | omega | (simp only [push_cast]; done) | (simp only [push_cast]; omega) | ((try simp only [push_cast]); (with_reducible first | apply sel_lt | apply sel_ge); (focus decide); (focus (simp only [push_cast]; omega))))) only [push_cast, ↓reduceIte, Nat.reduceEqDiff, Nat.reduceBEq, Nat.reduceAdd, Nat.reduceSub, Int.reduceToNat, List.length_append, *]
    · simp (disch := (first | omega | (simp only [push_cast]; done) | (simp only [push_cast]; omega) | ((try simp only [push_cast]); (with_reducible first | apply sel_lt | apply sel_ge); (focus decide); (focus (simp only [push_cast]; omega))))) only [push_cast, ↓reduceIte, Nat.reduceEqDiff, Nat.reduceBEq, Nat.reduceAdd, Nat.reduceSub, Int.reduceToNat, List.length_append, *]
    rintro ⟨L, x, y⟩ ⟨hL, hk, hxy⟩
    dsimp only at hL hk hxy
    replace hL := Lib.hid hL
    obtain ⟨r1, r2, r3, r4⟩ := gap_rng (m := wd - natN l) (n := (l.length : Int) - 1) (k := L.length) (by omega) (by omega) (by omega) (by omega)
    have hK : (l.length : Int) - 1 ≤ L.length → gapsL l wd = L := fun h2 => by
      rw [gapsL_K, show l.length - 1 = L.length by omega, ← hL.out]
    by_cases h0 : L.length = 0
    · obtain rfl : L = [] := List.eq_nil_of_length_eq_zero h0
      clear h0
      simp only [List.length_nil, Int.natCast_zero] at r1 r2 r3 r4
      repeat' (first | (with_reducible first | apply i_seq | apply i_block | apply i_skip | apply i_exit | apply i_ret | apply i_kS | apply i_kSx | apply i_kSr | apply i_kL | apply i_kLx | apply i_kLr | apply i_kB | apply i_kBr | apply i_kBs | apply i_nil) | ((with_reducible apply i_region); (focus (simp only [List.map_cons, List.map_nil] <;> exact rfl))) | ((with_reducible apply i_draw); (focus (simp only [List.map_cons, List.map_nil] <;> exact rfl)); (focus (decide +kernel))) | ((with_reducible apply i_kBo); (focus rfl)) | ((first | ((with_reducible apply i_V); (focus rfl); (focus rfl); (focus rfl)) | ((with_reducible first | apply i_E | apply i_S); (focus rfl); (focus (first | rfl | (simp only [push_cast, ↓reduceIte, effOk, touch, refsOf, List.flatMap_cons, List.flatMap_nil])))) | ((with_reducible apply i_Vq); (focus rfl); (focus rfl)) | ((with_reducible apply i_Vp); (focus rfl); (focus rfl); (focus rfl)) | (with_reducible first | apply i_Gb | apply i_cond)); (focus (simp (disch := (first | omega | (simp only [push_cast]; done) | (simp only [push_cast]; omega) | ((try simp only [push_cast]); (with_reducible first | apply sel_lt | apply sel_ge); (focus decide); (focus (simp only [push_cast]; omega))))) only [push_cast, ↓reduceIte, Nat.reduceEqDiff, Nat.reduceBEq, Nat.reduceAdd, Nat.reduceSub, Int.reduceToNat, *] <;> with_reducible exact rfl)); all_goals try (intro hX; first | (cases hX; done) | ((with_reducible first | have hX0 : true = true := hX | have hX0 : false = false := hX); clear hX0 hX) | ((try simp only [decide_eq_true_eq, decide_eq_false_iff_not, Bool.not_eq_true', Bool.not_eq_false'] at hX); (try have hXb := inB_iff.1 hX)))))
      · refine ⟨([] ++ [gapF (wd - natN l) ((l.length : Int) - 1) ([] : List Int).length], y, y + 1), ⟨gapsK_step hL.out, by simp; omega, by dsimp only; omega⟩, by simp; omega, ?_, ?_, rfl⟩
        · simp (disch := (first | omega | (simp only [push_cast]; done) | (simp only [push_cast]; omega) | ((try simp only [push_cast]); (with_reducible first | apply sel_lt | apply sel_ge); (focus decide); (focus (simp only [push_cast]; omega))))) only [push_cast, ↓reduceIte, Nat.reduceEqDiff, Nat.reduceBEq, Nat.reduceAdd, Nat.reduceSub, Int.reduceToNat, List.length_append, gapF, *]
        · simp (disch := (first | omega | (simp only [push_cast]; done) | (simp only [push_cast]; omega) | ((try simp only [push_cast]); (with_reducible first | apply sel_lt | apply sel_ge); (focus decide); (focus (simp only [push_cast]; omega))))) only [push_cast, ↓reduceIte, Nat.reduceEqDiff, Nat.reduceBEq, Nat.reduceAdd, Nat.reduceSub, Int.reduceToNat, List.length_append, gapF, *]
      · rw [hK (by simp; omega)]
        show PostIO _ _ 0 (.tup [.val (.slice none 0 0), .val (.bool true)]) [] _ _
        ((with_reducible apply i_endN0 (by first | exact .inl rfl | exact .inr rfl)); (focus (simp (disch := (first | omega | (simp only [push_cast]; done) | (simp only [push_cast]; omega) | ((try simp only [push_cast]); (with_reducible first | apply sel_lt | apply sel_ge); (focus decide); (focus (simp only [push_cast]; omega))))) only [push_cast, ↓reduceIte, Nat.reduceEqDiff, Nat.reduceBEq, Nat.reduceAdd, Nat.reduceSub, Int.reduceToNat, *] <;> with_reducible exact rfl)))
    · have hlp : 0 < (L.map fun n => PV.val (.int .i64 n)).length := by simp; omega
      repeat' (first | (with_reducible first | apply i_seq | apply i_block | apply i_skip | apply i_exit | apply i_ret | apply i_kS | apply i_kSx | apply i_kSr | apply i_kL | apply i_kLx | apply i_kLr | apply i_kB | apply i_kBr | apply i_kBs | apply i_nil) | ((with_reducible apply i_region); (focus (simp only [List.map_cons, List.map_nil] <;> exact rfl))) | ((with_reducible apply i_draw); (focus (simp only [List.map_cons, List.map_nil] <;> exact rfl)); (focus (decide +kernel))) | ((with_reducible apply i_kBo); (focus rfl)) | ((first | ((with_reducible apply i_V); (focus rfl); (focus rfl); (focus rfl)) | ((with_reducible first | apply i_E | apply i_S); (focus rfl); (focus (first | rfl | (simp only [push_cast, ↓reduceIte, effOk, touch, refsOf, List.flatMap_cons, List.flatMap_nil])))) | ((with_reducible apply i_Vq); (focus rfl); (focus rfl)) | ((with_reducible apply i_Vp); (focus rfl); (focus rfl); (focus rfl)) | (with_reducible first | apply i_Gb | apply i_cond)); (focus (simp (disch := (first | omega | (simp only [push_cast]; done) | (simp only [push_cast]; omega) | ((try simp only [push_cast]); (with_reducible first | apply sel_lt | apply sel_ge); (focus decide); (focus (simp only [push_cast]; omega))))) only [push_cast, ↓reduceIte, Nat.reduceEqDiff, Nat.reduceBEq, Nat.reduceAdd, Nat.reduceSub, Int.reduceToNat, *] <;> with_reducible exact rfl)); all_goals try (intro hX; first | (cases hX; done) | ((with_reducible first | have hX0 : true = true := hX | have hX0 : false = false := hX); clear hX0 hX) | ((try simp only [decide_eq_true_eq, decide_eq_false_iff_not, Bool.not_eq_true', Bool.not_eq_false'] at hX); (try have hXb := inB_iff.1 hX)))))
      · refine ⟨(L ++ [gapF (wd - natN l) ((l.length : Int) - 1) L.length], y, y + 1), ⟨gapsK_step hL.out, by simp; omega, by dsimp only; omega⟩, by simp; omega, ?_, ?_, rfl⟩
        · simp (disch := (first | omega | (simp only [push_cast]; done) | (simp only [push_cast]; omega) | ((try simp only [push_cast]); (with_reducible first | apply sel_lt | apply sel_ge); (focus decide); (focus (simp only [push_cast]; omega))))) only [push_cast, ↓reduceIte, Nat.reduceEqDiff, Nat.reduceBEq, Nat.reduceAdd, Nat.reduceSub, Int.reduceToNat, List.length_append, gapF, *]
        · simp (disch := (first | omega | (simp only [push_cast]; done) | (simp only [push_cast]; omega) | ((try simp only [push_cast]); (with_reducible first | apply sel_lt | apply sel_ge); (focus decide); (focus (simp only [push_cast]; omega))))) only [push_cast, ↓reduceIte, Nat.reduceEqDiff, Nat.reduceBEq, Nat.reduceAdd, Nat.reduceSub, Int.reduceToNat, List.length_append, gapF, *]
      · rw [hK (by omega), nP_pos hlp, nC_pos hlp, List.length_map]
        ((with_reducible apply i_endN1 (x) (by first | exact .inl rfl | exact .inr rfl)); (focus (simp (disch := (first | omega | (simp only [push_cast]; done) | (simp only [push_cast]; omega) | ((try simp only [push_cast]); (with_reducible first | apply sel_lt | apply sel_ge); (focus decide); (focus (simp only [push_cast]; omega))))) only [push_cast, ↓reduceIte, Nat.reduceEqDiff, Nat.reduceBEq, Nat.reduceAdd, Nat.reduceSub, Int.reduceToNat, *] <;> with_reducible exact rfl)); (focus (simp (disch := (first | omega | (simp only [push_cast]; done) | (simp only [push_cast]; omega) | ((try simp only [push_cast]); (with_reducible first | apply sel_lt | apply sel_ge); (focus decide); (focus (simp only [push_cast]; omega))))) only [push_cast, ↓reduceIte, Nat.reduceEqDiff, Nat.reduceBEq, Nat.reduceAdd, Nat.reduceSub, Int.reduceToNat, *] <;> with_reducible exact rfl)))
theorem implTextGaps_ok : Sound Tryd.prog 72 φGaps := by
  refine implTextGapsN.pure.weak fun ps r hr => ?_
  obtain ⟨l, wd, rfl, hq⟩ := F2_some hr
  split at hq
  case isFalse => cases hq
  case isTrue hpre =>
  cases hq
  by_cases h0 : (gapsR l wd).length = 0
  · have e : gapsR l wd = [] := List.eq_nil_of_length_eq_zero h0
    rw [e]
    refine ⟨_, _, leL_refl _, pureN_of (r1 := .tup [.val (.slice none 0 0), .val (.bool (gapsB l wd))]) (ΨGaps_ap hpre) ?_, tup_le ⟨nil_le _ _, PV.le_refl _, trivial⟩⟩
    unfold gapsI
    rw [e]
    rfl
  · have hlp : 0 < (gapsI l wd).length := by simp; omega
    refine ⟨_, _, leL_refl _, pureN_of (ΨGaps_ap hpre) ?_, PV.le_refl _⟩
    rw [nP_pos hlp, nC_pos hlp, List.length_map]
    have ho : (fun o => [((3, 1, gapsI l wd) : CellIO)][o]?) = lo [(0, (3, 1, gapsI l wd))] := ls_one _
    rw [ho]
    (simp (disch := (first | omega | (simp only [push_cast]; done) | (simp only [push_cast]; omega) | ((try simp only [push_cast]); (with_reducible first | apply sel_lt | apply sel_ge); (focus decide); (focus (simp only [push_cast]; omega))))) only [push_cast, ↓reduceIte, Nat.reduceEqDiff, Nat.reduceBEq, Nat.reduceAdd, Nat.reduceSub, Int.reduceToNat, *] <;> with_reducible exact rfl)
theorem sumS_nil : sumS [] = 0 := rfl
theorem sumS_take {l : LS} {k : Nat} (h : k < l.length) : sumS (l.take (k + 1)) = sumS (l.take k) + (l[k]?.getD .empty).size := by
  rw [List.take_add_one, List.getElem?_eq_getElem h]
  simp only [sumS, List.map_append, List.sum_append, Option.toList_some, List.map_cons, List.map_nil, List.sum_cons, List.sum_nil, Nat.add_zero, Option.getD_some]
theorem sumS_take_le (l : LS) (k : Nat) : sumS (l.take k) ≤ sumS l := by
  have h : sumS l = sumS (l.take k) + sumS (l.drop k) := by
    conv => lhs; rw [← List.take_append_drop k l]
    simp only [sumS, List.map_append, List.sum_append]
  omega
noncomputable def GSgap : Ctx := ⟨fun f => if f = 80 then some φWords else if f = 58 then some φIn else none, fun f => none⟩
theorem GSgap_ok : SoundΓ Tryd.prog GSgap := ⟨(fun f φ h => by
  unfold GSgap at h
  dsimp only at h
  split at h
  · rename_i hf; cases h; subst hf; exact ⟨⟨_, Tryd.func80, rfl, rfl⟩, specWordsValid_ok⟩
  split at h
  · rename_i hf; cases h; subst hf; exact ⟨⟨_, Tryd.func58, rfl, rfl⟩, l1In_ok⟩
  cases h), (fun f φ h => by
  unfold GSgap at h
  dsimp only at h
  cases h)⟩
theorem GSgap_80 (ob : Objs) (ps : List PV) : evCall GSgap ob 80 ps = (ps.mapM (reify false 0 ob fuel)).bind φWords := by
  have h : GSgap.fn 80 = some φWords := by simp [GSgap]
  unfold evCall
  rw [h]
  cases ps.mapM (reify false 0 ob fuel) <;> rfl
theorem GSgap_58 (ob : Objs) (ps : List PV) : evCall GSgap ob 58 ps = (ps.mapM (reify false 0 ob fuel)).bind φIn := by
  have h : GSgap.fn 58 = some φIn := by simp [GSgap]
  unfold evCall
  rw [h]
  cases ps.mapM (reify false 0 ob fuel) <;> rfl
set_option maxHeartbeats 8000000 in
theorem specTextGaps_ok : Sound Tryd.prog 74 φGaps := by
  refine sound_pq mixed GSgap_ok Tryd.func74 rfl 75 rfl [.tmp 4, .tmp 5] rfl (by kernel_rfl) fun ps r hr => ?_
  obtain ⟨l, wd, rfl, hq⟩ := F2_some hr
  clear hr
  split at hq
  case isFalse => cases hq
  case isTrue hpre =>
  cases hq
  refine ⟨by simp, ?_⟩
  simp only [dIs, dUs, dSs, dI_e, dU_e, dB_e, dS_e, dFn_e, dL_e, dA2_e, dA3_e, dA4_e, dA5_e]
  have hl := hpre.1
  have hn := natN_le hpre
  have ap1 := φWords_ap hpre
  have ap3 := φIn_ap
  have hsz := hpre.2
  clear hpre
  by_cases hp : allWords l = true ∧ l.length ≠ 0 ∧ inB wd 1 60 = true
  · obtain ⟨hw, h0, hwd⟩ := hp
    have hwb := inB_iff.1 hwd
    have h12 := allWords_len hw
    have gsgap_c80 := GSgap_80; have gsgap_c58 := GSgap_58
    repeat' (first | (with_reducible first | apply i_seq | apply i_block | apply i_skip | apply i_exit | apply i_ret | apply i_kS | apply i_kSx | apply i_kSr | apply i_kL | apply i_kLx | apply i_kLr | apply i_kB | apply i_kBr | apply i_kBs | apply i_nil) | ((with_reducible apply i_region); (focus (simp only [List.map_cons, List.map_nil] <;> exact rfl))) | ((with_reducible apply i_draw); (focus (simp only [List.map_cons, List.map_nil] <;> exact rfl)); (focus (decide +kernel))) | ((with_reducible apply i_kBo); (focus rfl)) | ((first | ((with_reducible apply i_V); (focus rfl); (focus rfl); (focus rfl)) | ((with_reducible first | apply i_E | apply i_S); (focus rfl); (focus (first | rfl | (simp only [push_cast, ↓reduceIte, effOk, touch, refsOf, List.flatMap_cons, List.flatMap_nil])))) | ((with_reducible apply i_Vq); (focus rfl); (focus rfl)) | ((with_reducible apply i_Vp); (focus rfl); (focus rfl); (focus rfl)) | (with_reducible first | apply i_Gb | apply i_cond)); (focus (simp (disch := (first | omega | (simp only [push_cast]; done) | (simp only [push_cast]; omega) | ((try simp only [push_cast]); (with_reducible first | apply sel_lt | apply sel_ge); (focus decide); (focus (simp only [push_cast]; omega))))) only [push_cast, ↓reduceIte, Nat.reduceEqDiff, Nat.reduceBEq, Nat.reduceAdd, Nat.reduceSub, Int.reduceToNat, *] <;> with_reducible exact rfl)); all_goals try (intro hX; first | (cases hX; done) | ((with_reducible first | have hX0 : true = true := hX | have hX0 : false = false := hX); clear hX0 hX) | ((try simp only [decide_eq_true_eq, decide_eq_false_iff_not, Bool.not_eq_true', Bool.not_eq_false'] at hX); (try have hXb := inB_iff.1 hX)))))
    all_goals try (exfalso; omega)
    have hG : gapsB l wd = decide ((natN l : Int) ≤ wd) := by
      unfold gapsB
      rw [hw, hwd, decide_eq_false h0]
      simp
    have hR : gapsR l wd = if (natN l : Int) ≤ wd then gapsL l wd else [] := by
      unfold gapsR
      rw [hG]
      simp
    rw [hG, hR]
    clear hG hR
    refine i_loop (α := Nat) mixed (fun k => [(0, .lst false 1 (l.map fun s => .val (.string s))), (1, iv wd), (6, .row 0 1 0 0), (7, iv ((l.length : Int) - 1 + sumS (l.take k))), (8, iv k)])
      (fun _ => [(0, 3, 1, [])]) (fun _ => 1) (fun k => k ≤ l.length) (fun k => l.length - k) (by kernel_rfl) 0 (Nat.zero_le _) ?_ ?_ rfl ?_
    · simp (disch := (first | omega | (simp only [push_cast]; done) | (simp only [push_cast]; omega) | ((try simp only [push_cast]); (with_reducible first | apply sel_lt | apply sel_ge); (focus decide); (focus (simp only [push_cast]; omega))))) only [push_cast, ↓reduceIte, Nat.reduceEqDiff, Nat.reduceBEq, Nat.reduceAdd, Nat.reduceSub, Int.reduceToNat, sumS_nil, Int.add_zero, *]
    · simp (disch := (first | omega | (simp only [push_cast]; done) | (simp only [push_cast]; omega) | ((try simp only [push_cast]); (with_reducible first | apply sel_lt | apply sel_ge); (focus decide); (focus (simp only [push_cast]; omega))))) only [push_cast, ↓reduceIte, Nat.reduceEqDiff, Nat.reduceBEq, Nat.reduceAdd, Nat.reduceSub, Int.reduceToNat, List.length_append, *]
    intro k hk
    have hs1 := sumS_take_le l k
    have hs2 := hsz k
    have hs3 : sumS l ≤ natN l := by unfold natN; omega
    by_cases hkl : k < l.length
    · repeat' (first | (with_reducible first | apply i_seq | apply i_block | apply i_skip | apply i_exit | apply i_ret | apply i_kS | apply i_kSx | apply i_kSr | apply i_kL | apply i_kLx | apply i_kLr | apply i_kB | apply i_kBr | apply i_kBs | apply i_nil) | ((with_reducible apply i_region); (focus (simp only [List.map_cons, List.map_nil] <;> exact rfl))) | ((with_reducible apply i_draw); (focus (simp only [List.map_cons, List.map_nil] <;> exact rfl)); (focus (decide +kernel))) | ((with_reducible apply i_kBo); (focus rfl)) | ((first | ((with_reducible apply i_V); (focus rfl); (focus rfl); (focus rfl)) | ((with_reducible first | apply i_E | apply i_S); (focus rfl); (focus (first | rfl | (simp only [push_cast, ↓reduceIte, effOk, touch, refsOf, List.flatMap_cons, List.flatMap_nil])))) | ((with_reducible apply i_Vq); (focus rfl); (focus rfl)) | ((with_reducible apply i_Vp); (focus rfl); (focus rfl); (focus rfl)) | (with_reducible first | apply i_Gb | apply i_cond)); (focus (simp (disch := (first | omega | (simp only [push_cast]; done) | (simp only [push_cast]; omega) | ((try simp only [push_cast]); (with_reducible first | apply sel_lt | apply sel_ge); (focus decide); (focus (simp only [push_cast]; omega))))) only [push_cast, ↓reduceIte, Nat.reduceEqDiff, Nat.reduceBEq, Nat.reduceAdd, Nat.reduceSub, Int.reduceToNat, *] <;> with_reducible exact rfl)); all_goals try (intro hX; first | (cases hX; done) | ((with_reducible first | have hX0 : true = true := hX | have hX0 : false = false := hX); clear hX0 hX) | ((try simp only [decide_eq_true_eq, decide_eq_false_iff_not, Bool.not_eq_true', Bool.not_eq_false'] at hX); (try have hXb := inB_iff.1 hX)))))
      all_goals try (exfalso; omega)
      refine ⟨k + 1, by omega, by dsimp only; omega, ?_, ?_, rfl⟩
      · simp (disch := (first | omega | (simp only [push_cast]; done) | (simp only [push_cast]; omega) | ((try simp only [push_cast]); (with_reducible first | apply sel_lt | apply sel_ge); (focus decide); (focus (simp only [push_cast]; omega))))) only [push_cast, ↓reduceIte, Nat.reduceEqDiff, Nat.reduceBEq, Nat.reduceAdd, Nat.reduceSub, Int.reduceToNat, sumS_take, *]
        simp only [Int.add_assoc, and_self]
      · simp (disch := (first | omega | (simp only [push_cast]; done) | (simp only [push_cast]; omega) | ((try simp only [push_cast]); (with_reducible first | apply sel_lt | apply sel_ge); (focus decide); (focus (simp only [push_cast]; omega))))) only [push_cast, ↓reduceIte, Nat.reduceEqDiff, Nat.reduceBEq, Nat.reduceAdd, Nat.reduceSub, Int.reduceToNat, List.length_append, *]
    have e1 : l.take k = l := List.take_of_length_le (by omega)
    rw [e1]
    have e2 : (l.length : Int) - 1 + sumS l = natN l := by unfold natN; omega
    rw [e2]
    clear e1 e2 hs1 hs2 hs3
    have hle := Lib.hid (rfl : natN l = natN l)
    repeat' (first | (with_reducible first | apply i_seq | apply i_block | apply i_skip | apply i_exit | apply i_ret | apply i_kS | apply i_kSx | apply i_kSr | apply i_kL | apply i_kLx | apply i_kLr | apply i_kB | apply i_kBr | apply i_kBs | apply i_nil) | ((with_reducible apply i_region); (focus (simp only [List.map_cons, List.map_nil] <;> exact rfl))) | ((with_reducible apply i_draw); (focus (simp only [List.map_cons, List.map_nil] <;> exact rfl)); (focus (decide +kernel))) | ((with_reducible apply i_kBo); (focus rfl)) | ((first | ((with_reducible apply i_V); (focus rfl); (focus rfl); (focus rfl)) | ((with_reducible first | apply i_E | apply i_S); (focus rfl); (focus (first | rfl | (simp only [push_cast, ↓reduceIte, effOk, touch, refsOf, List.flatMap_cons, List.flatMap_nil])))) | ((with_reducible apply i_Vq); (focus rfl); (focus rfl)) | ((with_reducible apply i_Vp); (focus rfl); (focus rfl); (focus rfl)) | (with_reducible first | apply i_Gb | apply i_cond)); (focus (simp (disch := (first | omega | (simp only [push_cast]; done) | (simp only [push_cast]; omega) | ((try simp only [push_cast]); (with_reducible first | apply sel_lt | apply sel_ge); (focus decide); (focus (simp only [push_cast]; omega))))) only [push_cast, ↓reduceIte, Nat.reduceEqDiff, Nat.reduceBEq, Nat.reduceAdd, Nat.reduceSub, Int.reduceToNat, *] <;> with_reducible exact rfl)); all_goals try (intro hX; first | (cases hX; done) | ((with_reducible first | have hX0 : true = true := hX | have hX0 : false = false := hX); clear hX0 hX) | ((try simp only [decide_eq_true_eq, decide_eq_false_iff_not, Bool.not_eq_true', Bool.not_eq_false'] at hX); (try have hXb := inB_iff.1 hX)))))
    all_goals try (exfalso; omega)
    · rename_i hX
      rw [if_neg (by omega), decide_eq_false (by omega)]
      ((first | apply i_end | apply i_endN); simp (disch := (first | omega | (simp only [push_cast]; done) | (simp only [push_cast]; omega) | ((try simp only [push_cast]); (with_reducible first | apply sel_lt | apply sel_ge); (focus decide); (focus (simp only [push_cast]; omega))))) only [push_cast, ↓reduceIte, Nat.reduceEqDiff, Nat.reduceBEq, Nat.reduceAdd, Nat.reduceSub, Int.reduceToNat, *])
    rename_i hX
    rw [if_pos (by omega), decide_eq_true (by omega)]
    refine i_loop (α := List Int × Nat × Nat) mixed (fun s => [(1, iv wd), (6, .row s.2.1 1 0 s.1.length), (7, iv (natN l)), (9, iv ((l.length : Int) - 1)), (10, iv s.1.length)])
      (fun s => [(s.2.1, 3, 1, s.1.map fun n => .val (.int .i64 n))]) (fun s => s.2.2)
      (fun s => s.1 = gapsK l wd s.1.length ∧ s.1.length < l.length ∧ s.2.1 < s.2.2) (fun s => l.length - s.1.length) (by kernel_rfl) ([], 0, 1) ⟨rfl, by simp; omega, by simp⟩ ?_ ?_ rfl ?_
    · simp (disch := (first | omega | (simp only [push_cast]; done) | (simp only [push_cast]; omega) | ((try simp only [push_cast]); (with_reducible first | apply sel_lt | apply sel_ge); (focus decide); (focus (simp only [push_cast]; omega))))) only [push_cast, ↓reduceIte, Nat.reduceEqDiff, Nat.reduceBEq, Nat.reduceAdd, Nat.reduceSub, Int.reduceToNat, List.length_append, *]
    · simp (disch := (first | omega | (simp only [push_cast]; done) | (simp only [push_cast]; omega) | ((try simp only [push_cast]); (with_reducible first | apply sel_lt | apply sel_ge); (focus decide); (focus (simp only [push_cast]; omega))))) only [push_cast, ↓reduceIte, Nat.reduceEqDiff, Nat.reduceBEq, Nat.reduceAdd, Nat.reduceSub, Int.reduceToNat, List.length_append, *]
    rintro ⟨L, x, y⟩ ⟨hL, hk, hxy⟩
    dsimp only at hL hk hxy
    replace hL := Lib.hid hL
    obtain ⟨r1, r2, r3, r4⟩ := gap_rng (m := wd - natN l) (n := (l.length : Int) - 1) (k := L.length) (by omega) (by omega) (by omega) (by omega)
    repeat' (first | (with_reducible first | apply i_seq | apply i_block | apply i_skip | apply i_exit | apply i_ret | apply i_kS | apply i_kSx | apply i_kSr | apply i_kL | apply i_kLx | apply i_kLr | apply i_kB | apply i_kBr | apply i_kBs | apply i_nil) | ((with_reducible apply i_region); (focus (simp only [List.map_cons, List.map_nil] <;> exact rfl))) | ((with_reducible apply i_draw); (focus (simp only [List.map_cons, List.map_nil] <;> exact rfl)); (focus (decide +kernel))) | ((with_reducible apply i_kBo); (focus rfl)) | ((first | ((with_reducible apply i_V); (focus rfl); (focus rfl); (focus rfl)) | ((with_reducible first | apply i_E | apply i_S); (focus rfl); (focus (first | rfl | (simp only [push_cast, ↓reduceIte, effOk, touch, refsOf, List.flatMap_cons, List.flatMap_nil])))) | ((with_reducible apply i_Vq); (focus rfl); (focus rfl)) | ((with_reducible apply i_Vp); (focus rfl); (focus rfl); (focus rfl)) | (with_reducible first | apply i_Gb | apply i_cond)); (focus (simp (disch := (first | omega | (simp only [push_cast]; done) | (simp only [push_cast]; omega) | ((try simp only [push_cast]); (with_reducible first | apply sel_lt | apply sel_ge); (focus decide); (focus (simp only [push_cast]; omega))))) only [push_cast, ↓reduceIte, Nat.reduceEqDiff, Nat.reduceBEq, Nat.reduceAdd, Nat.reduceSub, Int.reduceToNat, *] <;> with_reducible exact rfl)); all_goals try (intro hX; first | (cases hX; done) | ((with_reducible first | have hX0 : true = true := hX | have hX0 : false = false := hX); clear hX0 hX) | ((try simp only [decide_eq_true_eq, decide_eq_false_iff_not, Bool.not_eq_true', Bool.not_eq_false'] at hX); (try have hXb := inB_iff.1 hX)))))
    · refine ⟨(L ++ [gapF (wd - natN l) ((l.length : Int) - 1) L.length], y, y + 1), ⟨gapsK_step hL.out, by simp; omega, by dsimp only; omega⟩, by simp; omega, ?_, ?_, rfl⟩
      · simp (disch := (first | omega | (simp only [push_cast]; done) | (simp only [push_cast]; omega) | ((try simp only [push_cast]); (with_reducible first | apply sel_lt | apply sel_ge); (focus decide); (focus (simp only [push_cast]; omega))))) only [push_cast, ↓reduceIte, Nat.reduceEqDiff, Nat.reduceBEq, Nat.reduceAdd, Nat.reduceSub, Int.reduceToNat, List.length_append, gapF, *]
      · simp (disch := (first | omega | (simp only [push_cast]; done) | (simp only [push_cast]; omega) | ((try simp only [push_cast]); (with_reducible first | apply sel_lt | apply sel_ge); (focus decide); (focus (simp only [push_cast]; omega))))) only [push_cast, ↓reduceIte, Nat.reduceEqDiff, Nat.reduceBEq, Nat.reduceAdd, Nat.reduceSub, Int.reduceToNat, List.length_append, gapF, *]
    · rw [gapsL_K, show l.length - 1 = L.length by omega, ← hL.out]
      ((first | apply i_end | apply i_endN); simp (disch := (first | omega | (simp only [push_cast]; done) | (simp only [push_cast]; omega) | ((try simp only [push_cast]); (with_reducible first | apply sel_lt | apply sel_ge); (focus decide); (focus (simp only [push_cast]; omega))))) only [push_cast, ↓reduceIte, Nat.reduceEqDiff, Nat.reduceBEq, Nat.reduceAdd, Nat.reduceSub, Int.reduceToNat, *])
  · have hG : gapsB l wd = false := by
      rw [Bool.eq_false_iff]
      intro h
      have := gapsB_iff.1 h
      exact hp ⟨this.1, this.2.1, this.2.2.1⟩
    rw [gapsR_no hG, hG]
    clear hG
    have gsgap_c80 := GSgap_80; have gsgap_c58 := GSgap_58
    repeat' (first | (with_reducible first | apply i_seq | apply i_block | apply i_skip | apply i_exit | apply i_ret | apply i_kS | apply i_kSx | apply i_kSr | apply i_kL | apply i_kLx | apply i_kLr | apply i_kB | apply i_kBr | apply i_kBs | apply i_nil) | ((with_reducible apply i_region); (focus (simp only [List.map_cons, List.map_nil] <;> exact rfl))) | ((with_reducible apply i_draw); (focus (simp only [List.map_cons, List.map_nil] <;> exact rfl)); (focus (decide +kernel))) | ((with_reducible apply i_kBo); (focus rfl)) | ((first | ((with_reducible apply i_V); (focus rfl); (focus rfl); (focus rfl)) | ((with_reducible first | apply i_E | apply i_S); (focus rfl); (focus (first | rfl | (simp only [push_cast, ↓reduceIte, effOk, touch, refsOf, List.flatMap_cons, List.flatMap_nil])))) | ((with_reducible apply i_Vq); (focus rfl); (focus rfl)) | ((with_reducible apply i_Vp); (focus rfl); (focus rfl); (focus rfl)) | (with_reducible first | apply i_Gb | apply i_cond)); (focus (simp (disch := (first | omega | (simp only [push_cast]; done) | (simp only [push_cast]; omega) | ((try simp only [push_cast]); (with_reducible first | apply sel_lt | apply sel_ge); (focus decide); (focus (simp only [push_cast]; omega))))) only [push_cast, ↓reduceIte, Nat.reduceEqDiff, Nat.reduceBEq, Nat.reduceAdd, Nat.reduceSub, Int.reduceToNat, *] <;> with_reducible exact rfl)); all_goals try (intro hX; first | (cases hX; done) | ((with_reducible first | have hX0 : true = true := hX | have hX0 : false = false := hX); clear hX0 hX) | ((try simp only [decide_eq_true_eq, decide_eq_false_iff_not, Bool.not_eq_true', Bool.not_eq_false'] at hX); (try have hXb := inB_iff.1 hX)))))
    all_goals (first | (exfalso; simp_all; done) | (((first | apply i_end | apply i_endN); simp (disch := (first | omega | (simp only [push_cast]; done) | (simp only [push_cast]; omega) | ((try simp only [push_cast]); (with_reducible first | apply sel_lt | apply sel_ge); (focus decide); (focus (simp only [push_cast]; omega))))) only [push_cast, ↓reduceIte, Nat.reduceEqDiff, Nat.reduceBEq, Nat.reduceAdd, Nat.reduceSub, Int.reduceToNat, *]); done) | skip)
theorem div_step {a m n : Int} (hn : 0 < n) : a / n + m / n ≤ (a + m) / n ∧ (a + m) / n ≤ a / n + m / n + 1 := by
  have e1 := Int.mul_ediv_add_emod a n
  have e2 := Int.mul_ediv_add_emod m n
  have e3 := Int.mul_ediv_add_emod (a + m) n
  have a1 := Int.emod_nonneg a (show n ≠ 0 by omega)
  have a2 := Int.emod_nonneg m (show n ≠ 0 by omega)
  have a3 := Int.emod_nonneg (a + m) (show n ≠ 0 by omega)
  have b1 := Int.emod_lt_of_pos a hn
  have b2 := Int.emod_lt_of_pos m hn
  have b3 := Int.emod_lt_of_pos (a + m) hn
  generalize a / n = q0 at *
  generalize m / n = qm at *
  generalize (a + m) / n = q1 at *
  have e : n * (q1 - q0 - qm) = n * q1 - n * q0 - n * qm := by rw [Int.mul_sub, Int.mul_sub]
  constructor
  · by_cases h : q0 + qm ≤ q1
    · exact h
    · exfalso
      have : n * (q1 - q0 - qm) ≤ n * (-1) := Int.mul_le_mul_of_nonneg_left (by omega) (by omega)
      omega
  · by_cases h : q1 ≤ q0 + qm + 1
    · exact h
    · exfalso
      have : n * 2 ≤ n * (q1 - q0 - qm) := Int.mul_le_mul_of_nonneg_left (by omega) (by omega)
      omega
theorem gap_near {m n : Int} (hm : 0 ≤ m) (hn : 0 < n) (k : Nat) : 1 + m / n ≤ gapF m n k ∧ gapF m n k ≤ 2 + m / n := by
  have h := div_step (a := m * k) (m := m) hn
  have e : m * ((k : Int) + 1) = m * k + m := by rw [Int.mul_add, Int.mul_one]
  unfold gapF
  rw [e]
  omega
end Go.Proofs.YtenldjifipnjpaaDoor
namespace Go.Proofs.YtenldjifipnjpaaDoor
open Go.RowKit
set_option linter.all false
noncomputable def wolR (l : LS) : LS := (wordsM (linesB (l.map (·.data.toList))) []).map fun b => ⟨b.toArray⟩
def okWl (l : LS) : Prop := l.length ≤ 1048576 ∧ sumS l ≤ 1048576
def WolI (l R : LS) (k : Nat) (rest : List UInt8) (out : LS) (word : ByteArray) : Prop :=
  out.map (·.data.toList) ++ wordsM (rest ++ linesB ((l.drop k).map (·.data.toList))) word.data.toList = R.map (·.data.toList)
theorem toL_inj {a b : LS} (h : a.map (·.data.toList) = b.map (·.data.toList)) : a = b := by
  induction a generalizing b with
  | nil => cases b with
    | nil => rfl
    | cons y b => simp at h
  | cons x a ih => cases b with
    | nil => simp at h
    | cons y b =>
      simp only [List.map_cons, List.cons.injEq] at h
      rw [gl_ext h.1, ih h.2]
theorem toL_nil {w : ByteArray} : w.data.toList = [] ↔ w = ⟨#[]⟩ := ⟨fun h => gl_ext h, fun h => by rw [h]⟩
theorem WolI.byte {l R : LS} {k : Nat} {out : LS} {word w2 : ByteArray} {b : UInt8} {r : List UInt8} (h : WolI l R k (b :: r) out word) (hb : ¬ b = 32) (hw : w2.data.toList = word.data.toList ++ [b]) : WolI l R k r out w2 := by
  unfold WolI at h ⊢
  rw [List.cons_append] at h
  unfold wordsM at h
  rw [if_neg hb] at h
  rw [hw]
  exact h
end Go.Proofs.YtenldjifipnjpaaDoor
